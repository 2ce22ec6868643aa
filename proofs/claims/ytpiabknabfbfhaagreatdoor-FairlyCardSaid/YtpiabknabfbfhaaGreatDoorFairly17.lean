/- Part 17. -/
import Derived.Test.YtpiabknabfbfhaaGreatDoorFairly16
set_option linter.all false
set_option maxRecDepth 100000
set_option maxHeartbeats 8000000
namespace Go.Qw
open Go Go.Conc Go.Proofs Go.Proofs.Tryz
inductive yd:(α:Type)->FuncId->TypeId->(α->Value)->Prop
 |YN:yd Int 82 72 aV
 |YF:yd Int 181 88 aV
 |YK:yd Int 222 273 aV
 |YJ:yd (List UInt8) 220 274 bR
noncomputable def qm(f:FuncId):Func:=(prog.funcs[f]?).getD default
noncomputable def BI(f:FuncId):Code:=(qm f).body.getD .skip
noncomputable def iI(f:FuncId):Array Oper:=bK (bM (BI f))
noncomputable def LI(f:FuncId):Code:=dL (dL (aQ (BI f)))
noncomputable def TI(f:FuncId):Array Oper:=bK (bM (LI f))
noncomputable def nI(f:FuncId):Code:=dL (aQ (aQ (LI f)))
noncomputable def TJ(f:FuncId):Array Oper:=bK (bM (nI f))
noncomputable def xN(f:FuncId):Array Oper:=bK (bM (aQ (nI f)))
def bI(f:FuncId):Frame:={(default:Frame)with fn:=f,kind:=.normal}
def zR:BI 82=f82.body.getD .skip:=by unfold BI qm;rw[func82];rfl
def zO:BI 181=f181.body.getD .skip:=by unfold BI qm;rw[func181];rfl
def zQ:BI 222=f222.body.getD .skip:=by unfold BI qm;rw[func222];rfl
def zP:BI 220=f220.body.getD .skip:=by unfold BI qm;rw[func220];rfl
structure FI (lb it:Nat) (ρ:av):Prop where
 y:ρ 0=.func (.yield lb) #[] #[]
 i:ρ 5=pV it
section
variable {α:Type}{f:FuncId}{T:TypeId}{key:α->Value}(k:yd α f T key)
include k
def PE:prog.funcs[f]? =some (qm f):=by
 unfold qm
 cases k<;>simp only[func82,func181,func222,func220,Option.getD_some]
def aby:(qm f).results= #[]:=by cases k<;>kernel_rfl
def abx:(qm f).ntmps=14:=by cases k<;>kernel_rfl
def abw:(qm f).body=some (BI f):=by cases k<;>kernel_rfl
def Vv:BI f=.seq (.region 0 (iI f) false) (.block 0 (.loop (LI f))):=by cases k<;>kernel_rfl
def Np:LI f=.seq (.region 1 (TI f) false) (.seq (.cond (.tmp 7) .skip (.exit 0)) (.block 1 (nI f))):=by cases k<;>kernel_rfl
def SV:nI f=.seq (.region 2 (TJ f) false) (.seq (.region 3 (xN f) false) (.cond (.tmp 13) .ret .skip)):=by cases k<;>kernel_rfl
def amh:∃ps af t,(xN f)[2]? =some {dst:=some 12,op:=.call ⟨.value (.tmp 10),#[.tmp 11],#[t]⟩,type:=4,pos:=ps,after:=af,guard:=none}:=by cases k<;>exact⟨_,_,_,by simp only[xN,nI,LI,zR,zO,zQ,zP,f82,f181,f222,f220,Option.getD_some,aQ,bM,dL,bK];rfl⟩
end
section
variable {E:Env prog}{lb:Nat}{p:Tmp}{r:Loop}{c:Nat}{m:Nat}{cs:List Frame}
variable {α:Type}{f:FuncId}{T:TypeId}{key:α->Value}{A:Hp->List Value->Hp->Prop}{l:List (α×Value×Nat)}
def aiH (k:yd α f T key)(C:EV E lb p r A)(hold:∀e∈l,e.2.2<c)(hn:(l.map (·.2.2)).Nodup){X0:Hp}{xs:List Value}{it:Nat}(gq:xs.length+l.length<=1000000)(kA:∀e∈l,de (key e.1)=true):∀(n:Nat) (done rem:List (α×Value×Nat)) (seen:Array Nat) (X σ:Hp) (ρ:av) (a:Act),rem.length<n->Left l done rem seen->X0.le X->
 A X (xs++done.map λe=>key e.1) σ->X.f it=some (.mapIter (some m) c seen c)->X0.f it=none->X.f m=some (aU key l c)->it≠m->FI lb it ρ->cJ 14 a ρ []->
 ax E (G ((bI f).at a (.code (LI f):: .inLoop (LI f):: .inBlock 0::[])) cs) σ λg τ=>∃e fr,g=G fr cs/\fr.fn=f/\Leaving prog fr τ e/\
  (e=.returned (.tuple #[])/\∃X' ks,ks.Perm (l.map λe=>key e.1)/\X0.le X'/\A X' (xs++ks) τ):=by
 intro n
 induction n with
 |zero=>intro _ _ _ _ _ _ _ h;omega
 |succ n ih=>
  intro done rem seen X σ ρ a hlen hL hX hA hit h0 hm aE hF ha;have J4:=C.ext hA _ _ hit;have vy:=C.ext hA _ _ hm;rw[Np k];refine ax.ctl (λw=>stepG_seq) rfl rfl ?_;refine(np (E:=E) (N:=14) (X:=λρ ds τ=>ds=[]/\FI lb it ρ/\((ρ 7=.bool true/\∃e∈l,e.2.2∉seen/\τ=σ.set it (.mapIter (some m) c (seen.push e.2.2) c))\/(ρ 7=.bool false/\(∀e∈l,e.2.2∈seen)/\τ=σ))) ?_ (by simp[bI]) ha).bind ?_
  ·cases k
   all_goals
    simp only[TI,LI,zR,zO,zQ,zP,f82,f181,f222,f220,Option.getD_some,aQ,bM,dL,bK];refine ag ?_;refine S7 hF.i J4 vy hold ?_ ?_
    ·intro e he hs;simp only[go_sem,seval,aB,up];exact⟨rfl,⟨by simp[up,hF.y],by simp[up,hF.i]⟩,.inl ⟨by simp[up],e,he,hs,rfl⟩⟩
    ·intro hs;simp only[go_sem,seval,aB,up];exact⟨rfl,⟨by simp[up,hF.y],by simp[up,hF.i]⟩,.inr ⟨by simp[up],hs,rfl⟩⟩
  rintro g τ ⟨pY,_,a1,da,⟨rfl,nN,eN⟩,rfl⟩;refine ax.ctl (λw=>stepG_seq) rfl rfl ?_;rcases eN with⟨h7,e,he,hs,rfl⟩|⟨h7,hs,rfl⟩
  ·refine ax.ctl (λw=>stepG_cond (t:=true) (by rw[da.eval];exact h7)) rfl rfl ?_;refine ax.ctl (λw=>stepG_skip) rfl rfl ?_;refine ax.ctl (λw=>stepG_block) rfl rfl ?_;rw[SV k];refine ax.ctl (λw=>stepG_seq) rfl rfl ?_;have yB:=C.upd (o:=.mapIter (some m) c (seen.push e.2.2) c) hA hit;have C7:(σ.set it (.mapIter (some m) c (seen.push e.2.2) c)).f it=some (.mapIter (some m) c (seen.push e.2.2) c):=aY;have oM:(σ.set it (.mapIter (some m) c (seen.push e.2.2) c)).f m=some (aU key l c):=by rw[Hp.aO _ (Ne.symm aE)];exact vy
   generalize fE:σ.set it (.mapIter (some m) c (seen.push e.2.2) c)=τ at yB C7 oM;refine(np (E:=E) (N:=14) (X:=λρ ds cC=>ds=[]/\FI lb it ρ/\ρ 3=key e.1/\cC=τ) ?_ (by simp[bI]) da).bind ?_
   ·cases k
    all_goals
     simp only[TJ,nI,LI,zR,zO,zQ,zP,f82,f181,f222,f220,Option.getD_some,aQ,bM,dL,bK];refine ag ?_;refine Pd nN.i C7 oM hn he ?_;simp only[go_sem,seval,aB,up];exact⟨rfl,⟨by simp[up,nN.y],by simp[up,nN.i]⟩,by simp[up],rfl⟩
   rintro g cC ⟨lR,_,a2,gp,⟨rfl,mE,h3,rfl⟩,rfl⟩;refine ax.ctl (λw=>stepG_seq) rfl rfl ?_;refine ax.ctl (λw=>stepG_region) rfl rfl ?_;have hr:List.range (xN f).size=[0,1]++[2,3]:=by cases k<;>kernel_rfl
   rw[hr];refine(xV (E:=E) (N:=14) (ops:=xN f) (Q:=jO λρ ds nE=>ds=[]/\FI lb it ρ/\ρ 10=.func (.yield lb) #[] #[]/\ρ 11=key e.1/\nE=cC) (bI f) (by simp[bI]) _ cs [2,3] xJ [0,1] lR [] cC a2 ?_ gp).bind ?_
   ·cases k
    all_goals
     simp only[xN,nI,LI,zR,zO,zQ,zP,f82,f181,f222,f220,Option.getD_some,aQ,bM,dL,bK];simp only[List.filterMap_cons,List.filterMap_nil,List.getElem?_toArray,List.getElem?_cons_succ,List.getElem?_cons_zero];simp only[go_sem,seval,aB,up,jO];exact⟨⟨by simp[up,mE.y],by simp[up,mE.i]⟩,by simp[mE.y],by simp[h3]⟩
   rintro g nE ⟨HS,_,a3,ss,⟨rfl,tC,bA,bP,rfl⟩,rfl⟩;obtain⟨ps,af,tt,ho⟩:=amh k;refine ax.step rfl (UE ho rfl (by rw[ss.eval];exact bA) (C.loop yB) C.params) ?_;rintro g dr ⟨rfl,rfl⟩
   have J7:(xs++done.map λe=>key e.1).length<1000000:=by have h1:=hL.perm.length_eq;have h2:=List.length_pos_of_mem (hL.mem he hs);simp only[List.length_append,List.length_map]at h1|-;omega
   have hv:a3.eval (.tmp 11)=key e.1:=by rw[ss.eval];exact bP
   refine(C.round yB _ _ _ J7 (by rw[hv];exact kA e he)).bind ?_;rintro g rO ⟨rfl,Cw⟩;rw[Frame.finish_at,ho];rw[hv]at Cw;have yF:cJ 14 _ _ []:=ss.put (dst:=some 12) ai (.bool true);refine(xV (E:=E) (N:=14) (ops:=xN f) (Q:=jO λρ ds nE=>ds=[]/\FI lb it ρ/\ρ 13=.bool false/\nE=rO) (bI f) (by simp[bI]) _ cs [] xJ [3] _ [] rO _ ?_ yF).bind ?_
   ·cases k
    all_goals
     simp only[xN,nI,LI,zR,zO,zQ,zP,f82,f181,f222,f220,Option.getD_some,aQ,bM,dL,bK];simp only[List.filterMap_cons,List.filterMap_nil,List.getElem?_toArray,List.getElem?_cons_succ,List.getElem?_cons_zero];simp only[go_sem,seval,aB,up,jO];exact⟨by simp[up,tC.y],by simp[up,tC.i]⟩
   rintro g nE ⟨M4,_,a5,CH,⟨rfl,Jm,lW,rfl⟩,rfl⟩;refine ax.ctl (λw=>stepG_region_end) rfl rfl ?_;refine ax.ctl (λw=>stepG_cond (t:=false) (by rw[CH.eval];exact lW)) rfl rfl ?_;refine ax.ctl (λw=>stepG_skip) rfl rfl ?_;refine ax.ctl (λw=>stepG_inBlock) rfl rfl ?_;refine ax.ctl (λw=>stepG_inLoop) rfl rfl ?_;obtain⟨Bs,bj,CC⟩:=hL.step hn he hs;rw[<-SV k,<-Np k];refine ih (done++[e]) Bs (seen.push e.2.2) (X.set it (.mapIter (some m) c (seen.push e.2.2) c)) nE M4 a5 aa CC ?_ ?_ aY h0 (by rw[Hp.aO _ (Ne.symm aE)];exact hm) aE Jm CH
   ·intro b o hb;by_cases rj:b=it
    ·subst rj;rw[h0]at hb;cases hb
    ·rw[Hp.aO _ rj];exact hX _ _ hb
   ·rw[List.map_append,<-List.append_assoc];exact Cw
  ·refine ax.ctl (λw=>stepG_cond (t:=false) (by rw[da.eval];exact h7)) rfl rfl ?_;refine ax.ctl (λw=>stepG_exit (k':=[]) rfl) rfl rfl ?_;refine ax.ctl (λw=>stepG_end) rfl rfl (ax.here ⟨.returned (.tuple #[]),_,rfl,rfl,⟨rfl,?_,rfl,qm f,?_,?_⟩,rfl,X,_,(hL.all hn hs).map _,hX,hA⟩)
   ·exact da.defers
   ·exact PE k
   ·show wpS _ (results (qm f) a1.tmps) _ _ _;rw[wv (fn:=qm f) da];simp[Bt,aby k,bq]
end
variable {α:Type}{f:FuncId}{key:α->Value}
def HQ{T:TypeId}(k:yd α f T key):Yields f (λe:α×Value×Nat=>key e.1) key T:=by
 intro E lb p r A C X σ xs l c bm m hA dF hm hold hn gq kA cs;have JK:=C.ext hA _ _ dF;have vy:=C.ext hA _ _ hm
 have oK:Frame.enter prog f #[.func (.yield lb) #[] #[],pV bm] .normal=(bI f).at {tmps:=#[.func (.yield lb) #[] #[],pV bm]++Array.replicate 12 undef,defers:=[]} [.code (BI f)]:=by simp[Frame.enter,Frame.at,PE k,bI,abx k,abw k]
 rw[oK,Vv k];have ha:=rV #[.func (.yield lb) #[] #[],pV bm] 14 al;refine ax.ctl (λw=>stepG_seq) rfl rfl ?_;refine(np (E:=E) (N:=14) (X:=λρ ds τ=>ds=[]/\∃it,FI lb it ρ/\σ.f it=none/\τ=σ.set it (.mapIter (some m) c #[] c)) ?_ (by simp[bI]) ha).bind ?_
 ·cases k
  all_goals
   simp only[iI,zR,zO,zQ,zP,f82,f181,f222,f220,Option.getD_some,bM,bK];refine aG JK ?_;refine TT (by first|exact ud|exact ue|exact A6|exact zg) rfl vy ?_;intro it hit;simp only[go_sem,seval,aB];exact⟨rfl,it,⟨by simp[up,nB],by simp[up]⟩,hit,rfl⟩
 rintro g τ ⟨pY,_,a1,da,⟨rfl,it,hF,hit,rfl⟩,rfl⟩;refine ax.ctl (λw=>stepG_block) rfl rfl ?_;refine ax.ctl (λw=>stepG_loop) rfl rfl ?_
 have yD:X.f it=none:=by
  cases h:X.f it with
  |none=>rfl
  |some o=>rw[C.ext hA _ _ h]at hit;cases hit
 have aE:it≠m:=bp hm yD;refine aiH k C hold hn gq kA (l.length+1) [] l #[] (X.set it (.mapIter (some m) c #[] c)) _ pY a1 aa (.start l) ?_ (by simpa using C.new hA hit) aY yD (by rw[Hp.aO _ (Ne.symm aE)];exact hm) aE hF da;intro b o hb;by_cases rj:b=it
 ·subst rj;rw[yD]at hb;cases hb
 ·rw[Hp.aO _ rj];exact hb
theorem aqw:Yields 82 (λe:Int×Value×Nat=>aV e.1) aV 72:=HQ .YN
theorem aqt:Yields 181 (λe:Int×Value×Nat=>aV e.1) aV 88:=HQ .YF
theorem aqv:Yields 222 (λe:Int×Value×Nat=>aV e.1) aV 273:=HQ .YK
theorem aqu:Yields 220 (λe:List UInt8×Value×Nat=>bR e.1) bR 274:=HQ .YJ
noncomputable def rQ:Code:=f85.body.getD .skip
noncomputable def i85:Array Oper:=bK (bM rQ)
noncomputable def rR:Code:=dL (dL (aQ rQ))
noncomputable def TF:Array Oper:=bK (bM rR)
noncomputable def xD:Code:=dL (aQ (aQ rR))
noncomputable def TG:Array Oper:=bK (bM xD)
noncomputable def xM:Array Oper:=bK (bM (aQ xD))
theorem Vu:rQ=.seq (.region 0 i85 false) (.block 0 (.loop rR)):=ah
theorem No:rR=.seq (.region 1 TF false) (.seq (.cond (.tmp 8) .skip (.exit 0)) (.block 1 xD)):=ah
theorem SU:xD=.seq (.region 2 TG false) (.seq (.region 3 xM false) (.cond (.tmp 14) .ret .skip)):=ah
def tn:Frame:={(default:Frame)with fn:=85,kind:=.normal}
theorem alO:∃ps af,xM[2]? =some {dst:=some 13,op:=.call ⟨.value (.tmp 11),#[.tmp 12],#[77]⟩,type:=4,pos:=ps,after:=af,guard:=none}:=⟨_,_,by simp only[xM,xD,rR,rQ,f85,Option.getD_some,aQ,bM,dL,bK];rfl⟩
variable {lb:Nat}
structure zV (lb it:Nat) (ρ:av):Prop where
 y:ρ 0=.func (.yield lb) #[] #[]
 i:ρ 6=pV it
section
variable {E:Env prog}{lb:Nat}{p:Tmp}{r:Loop}{c:Nat}{m:Nat}{cs:List Frame}
variable {A:Hp->List Value->Hp->Prop}{l:List (List UInt8×Value×Nat)}
theorem aiG (C:EV E lb p r A)(hold:∀e∈l,e.2.2<c)(hn:(l.map (·.2.2)).Nodup){X0:Hp}{xs:List Value}{it:Nat}(gq:xs.length+l.length<=1000000)(kA:∀e∈l,de (e.2.1)=true):∀(n:Nat) (done rem:List (List UInt8×Value×Nat)) (seen:Array Nat) (X σ:Hp) (ρ:av) (a:Act),rem.length<n->Left l done rem seen->X0.le X->
 A X (xs++done.map λe=>e.2.1) σ->X.f it=some (.mapIter (some m) c seen c)->X0.f it=none->X.f m=some (aU bR l c)->it≠m->zV lb it ρ->cJ 15 a ρ []->
 ax E (G (tn.at a (.code rR:: .inLoop rR:: .inBlock 0::[])) cs) σ λg τ=>∃e fr,g=G fr cs/\fr.fn=85/\Leaving prog fr τ e/\
  (e=.returned (.tuple #[])/\∃X' ks,ks.Perm (l.map λe=>e.2.1)/\X0.le X'/\A X' (xs++ks) τ):=by
 intro n
 induction n with
 |zero=>intro _ _ _ _ _ _ _ h;omega
 |succ n ih=>
  intro done rem seen X σ ρ a hlen hL hX hA hit h0 hm aE hF ha;have J4:=C.ext hA _ _ hit;have vy:=C.ext hA _ _ hm;rw[No];refine ax.ctl (λw=>stepG_seq) rfl rfl ?_;refine(np (E:=E) (N:=15) (X:=λρ ds τ=>ds=[]/\zV lb it ρ/\((ρ 8=.bool true/\∃e∈l,e.2.2∉seen/\τ=σ.set it (.mapIter (some m) c (seen.push e.2.2) c))\/(ρ 8=.bool false/\(∀e∈l,e.2.2∈seen)/\τ=σ))) ?_ (by simp[tn]) ha).bind ?_
  ·simp only[TF,rR,rQ,f85,Option.getD_some,aQ,bM,dL,bK];refine ag ?_;refine S7 hF.i J4 vy hold ?_ ?_
   ·intro e he hs;simp only[go_sem,seval,aB,up];exact⟨rfl,⟨by simp[up,hF.y],by simp[up,hF.i]⟩,.inl ⟨by simp[up],e,he,hs,rfl⟩⟩
   ·intro hs;simp only[go_sem,seval,aB,up];exact⟨rfl,⟨by simp[up,hF.y],by simp[up,hF.i]⟩,.inr ⟨by simp[up],hs,rfl⟩⟩
  rintro g τ ⟨pY,_,a1,da,⟨rfl,nN,eN⟩,rfl⟩;refine ax.ctl (λw=>stepG_seq) rfl rfl ?_;rcases eN with⟨h7,e,he,hs,rfl⟩|⟨h7,hs,rfl⟩
  ·refine ax.ctl (λw=>stepG_cond (t:=true) (by rw[da.eval];exact h7)) rfl rfl ?_;refine ax.ctl (λw=>stepG_skip) rfl rfl ?_;refine ax.ctl (λw=>stepG_block) rfl rfl ?_;rw[SU];refine ax.ctl (λw=>stepG_seq) rfl rfl ?_;have yB:=C.upd (o:=.mapIter (some m) c (seen.push e.2.2) c) hA hit;have C7:(σ.set it (.mapIter (some m) c (seen.push e.2.2) c)).f it=some (.mapIter (some m) c (seen.push e.2.2) c):=aY;have oM:(σ.set it (.mapIter (some m) c (seen.push e.2.2) c)).f m=some (aU bR l c):=by rw[Hp.aO _ (Ne.symm aE)];exact vy
   generalize fE:σ.set it (.mapIter (some m) c (seen.push e.2.2) c)=τ at yB C7 oM;refine(np (E:=E) (N:=15) (X:=λρ ds cC=>ds=[]/\zV lb it ρ/\ρ 4=e.2.1/\cC=τ) ?_ (by simp[tn]) da).bind ?_
   ·simp only[TG,xD,rR,rQ,f85,Option.getD_some,aQ,bM,dL,bK];refine ag ?_;refine Pd nN.i C7 oM hn he ?_;simp only[go_sem,seval,aB,up];exact⟨rfl,⟨by simp[up,nN.y],by simp[up,nN.i]⟩,by simp[up],rfl⟩
   rintro g cC ⟨lR,_,a2,gp,⟨rfl,mE,h3,rfl⟩,rfl⟩;refine ax.ctl (λw=>stepG_seq) rfl rfl ?_;refine ax.ctl (λw=>stepG_region) rfl rfl ?_;have hr:List.range xM.size=[0,1]++[2,3]:=ah;rw[hr];refine(xV (E:=E) (N:=15) (ops:=xM) (Q:=jO λρ ds nE=>ds=[]/\zV lb it ρ/\ρ 11=.func (.yield lb) #[] #[]/\ρ 12=e.2.1/\nE=cC) tn (by simp[tn]) _ cs [2,3] xJ [0,1] lR [] cC a2 ?_ gp).bind ?_
   ·simp only[xM,xD,rR,rQ,f85,Option.getD_some,aQ,bM,dL,bK];simp only[List.filterMap_cons,List.filterMap_nil,List.getElem?_toArray,List.getElem?_cons_succ,List.getElem?_cons_zero];simp only[go_sem,seval,aB,up,jO];exact⟨⟨by simp[up,mE.y],by simp[up,mE.i]⟩,by simp[mE.y],by simp[h3]⟩
   rintro g nE ⟨HS,_,a3,ss,⟨rfl,tC,bA,bP,rfl⟩,rfl⟩;obtain⟨ps,af,ho⟩:=alO;refine ax.step rfl (UE ho rfl (by rw[ss.eval];exact bA) (C.loop yB) C.params) ?_;rintro g dr ⟨rfl,rfl⟩
   have J7:(xs++done.map λe=>e.2.1).length<1000000:=by have h1:=hL.perm.length_eq;have h2:=List.length_pos_of_mem (hL.mem he hs);simp only[List.length_append,List.length_map]at h1|-;omega
   have hv:a3.eval (.tmp 12)=e.2.1:=by rw[ss.eval];exact bP
   refine(C.round yB _ _ _ J7 (by rw[hv];exact kA e he)).bind ?_;rintro g rO ⟨rfl,Cw⟩;rw[Frame.finish_at,ho];rw[hv]at Cw;have yF:cJ 15 _ _ []:=ss.put (dst:=some 13) ai (.bool true);refine(xV (E:=E) (N:=15) (ops:=xM) (Q:=jO λρ ds nE=>ds=[]/\zV lb it ρ/\ρ 14=.bool false/\nE=rO) tn (by simp[tn]) _ cs [] xJ [3] _ [] rO _ ?_ yF).bind ?_
   ·simp only[xM,xD,rR,rQ,f85,Option.getD_some,aQ,bM,dL,bK];simp only[List.filterMap_cons,List.filterMap_nil,List.getElem?_toArray,List.getElem?_cons_succ,List.getElem?_cons_zero];simp only[go_sem,seval,aB,up,jO];exact⟨by simp[up,tC.y],by simp[up,tC.i]⟩
   rintro g nE ⟨M4,_,a5,CH,⟨rfl,Jm,lW,rfl⟩,rfl⟩;refine ax.ctl (λw=>stepG_region_end) rfl rfl ?_;refine ax.ctl (λw=>stepG_cond (t:=false) (by rw[CH.eval];exact lW)) rfl rfl ?_;refine ax.ctl (λw=>stepG_skip) rfl rfl ?_;refine ax.ctl (λw=>stepG_inBlock) rfl rfl ?_;refine ax.ctl (λw=>stepG_inLoop) rfl rfl ?_;obtain⟨Bs,bj,CC⟩:=hL.step hn he hs;rw[<-SU,<-No];refine ih (done++[e]) Bs (seen.push e.2.2) (X.set it (.mapIter (some m) c (seen.push e.2.2) c)) nE M4 a5 aa CC ?_ ?_ aY h0 (by rw[Hp.aO _ (Ne.symm aE)];exact hm) aE Jm CH
   ·intro b o hb;by_cases rj:b=it
    ·subst rj;rw[h0]at hb;cases hb
    ·rw[Hp.aO _ rj];exact hX _ _ hb
   ·rw[List.map_append,<-List.append_assoc];exact Cw
  ·refine ax.ctl (λw=>stepG_cond (t:=false) (by rw[da.eval];exact h7)) rfl rfl ?_;refine ax.ctl (λw=>stepG_exit (k':=[]) rfl) rfl rfl ?_;refine ax.ctl (λw=>stepG_end) rfl rfl (ax.here ⟨.returned (.tuple #[]),_,rfl,rfl,⟨rfl,?_,rfl,f85,?_,?_⟩,rfl,X,_,(hL.all hn hs).map _,hX,hA⟩)
   ·exact da.defers
   ·exact func85
   ·show wpS _ (results f85 a1.tmps) _ _ _;rw[wv (fn:=f85) da];simp[Bt,f85,bq]
end
theorem aqx:Yields 85 (λe:List UInt8×Value×Nat=>e.2.1) bR 114:=by
 intro E lb p r A C X σ xs l c bm m hA dF hm hold hn gq kA cs;have JK:=C.ext hA _ _ dF;have vy:=C.ext hA _ _ hm
 have oK:Frame.enter prog 85 #[.func (.yield lb) #[] #[],pV bm] .normal=tn.at {tmps:=#[.func (.yield lb) #[] #[],pV bm]++Array.replicate 13 undef,defers:=[]} [.code rQ]:=by simp[Frame.enter,Frame.at,func85,tn,f85,rQ]
 rw[oK,Vu];have ha:=rV #[.func (.yield lb) #[] #[],pV bm] 15 al;refine ax.ctl (λw=>stepG_seq) rfl rfl ?_;refine(np (E:=E) (N:=15) (X:=λρ ds τ=>ds=[]/\∃it,zV lb it ρ/\σ.f it=none/\τ=σ.set it (.mapIter (some m) c #[] c)) ?_ (by simp[tn]) ha).bind ?_
 ·simp only[i85,rQ,f85,Option.getD_some,bM,bK];refine aG JK ?_;refine TT vN rfl vy ?_;intro it hit;simp only[go_sem,seval,aB];exact⟨rfl,it,⟨by simp[up,nB],by simp[up]⟩,hit,rfl⟩
 rintro g τ ⟨pY,_,a1,da,⟨rfl,it,hF,hit,rfl⟩,rfl⟩;refine ax.ctl (λw=>stepG_block) rfl rfl ?_;refine ax.ctl (λw=>stepG_loop) rfl rfl ?_
 have yD:X.f it=none:=by
  cases h:X.f it with
  |none=>rfl
  |some o=>rw[C.ext hA _ _ h]at hit;cases hit
 have aE:it≠m:=bp hm yD;refine aiG C hold hn gq kA (l.length+1) [] l #[] (X.set it (.mapIter (some m) c #[] c)) _ pY a1 aa (.start l) ?_ (by simpa using C.new hA hit) aY yD (by rw[Hp.aO _ (Ne.symm aE)];exact hm) aE hF da;intro b o hb;by_cases rj:b=it
 ·subst rj;rw[yD]at hb;cases hb
 ·rw[Hp.aO _ rj];exact hb
inductive Sl (ety:TypeId) (σ:Hp) (xs:List Value):Value->Prop
 |nil:xs=[]->Sl ety σ xs (.slice none 0 0)
 |at(a:Nat) (pad:List Value):σ.f a=some (.cells (xs++pad).toArray ety (0,0))->Sl ety σ xs (.slice (some ⟨a,0,none⟩) xs.length (xs.length+pad.length))
variable {c:Nat}{P:Program}{ρ:av}{ds:List Deferred}{σ:Hp}{dst:Option Tmp}{ty:TypeId}{pos:String}{af:Array Edge}{g:Option (Nat×Bool)}{nx:av->List Deferred->Hp->Prop}{pn:List PanicEntry->Hp->Prop}{E:Env P}{xs:List Value}
theorem app1{t u:TypeId}{x y:Operand}(el:ou P t)(hz:el.z=1)(hb:el.bytes<=16){z0:Value}(hzero:el.zero= #[z0])(hu:Bh P u=true){v0 w:Value}{bn:Nat}(hv:Sl el.e σ xs v0)(hx:ak ρ x=v0)(hy:ak ρ y=.slice (some ⟨bn,0,none⟩) 1 1)(cz:σ.f bn=some (.cells [w].toArray el.e (0,0)))(hw:de w=true)(fM:xs.length<=1000000)(h:∀a pad,(σ.f a=none\/∃c,v0=.slice (some ⟨a,0,none⟩) xs.length c)->nx (aB ρ dst (.slice (some ⟨a,0,none⟩) (xs.length+1) (xs.length+1+pad.length))) ds (σ.set a (.cells (xs++[w]++pad).toArray el.e (0,0)))):
 aT E ⟨dst,.call ⟨.builtin .append,#[x,y],#[t,u]⟩,ty,pos,af,g⟩ ρ ds σ nx pn:=by
 have hn:sN (ak ρ y)=some 1:=by rw[hy];rfl
 have iF:iL σ el.z 1 (ak ρ y)=some #[w]:=by rw[hy,hz];simp[iL,cellsOf,cz]
 have gR:∀n,n<=1000000->(2*(n+1)+192)*el.bytes<=2^48:=by intro n hn;have:(2*(n+1)+192)*el.bytes<=(2*(n+1)+192)*16:=Nat.mul_le_mul_left _ hb;omega
 cases hv with
 |nil h0=>
  subst h0;refine rW el (base:=none) (l:=0) (c:=0) (n:=1) (old:=#[]) (new:=#[w]) hu hx hn rfl iF (gR 0 aa) aa (λhc=>aa) ?_;intro hc b cap eS jJ;have:=h b (List.replicate (cap-1) z0) (.inl eS);simp only[List.length_nil,Nat.zero_add,List.length_replicate,List.nil_append]at this;rw[hzero,ES];have e1:1+(cap-1)=cap:=aa;rw[e1]at this
  have e2:(#[]++ #[w]++(List.replicate (cap-(0+1)) z0).toArray:Array Value)=([w]++List.replicate (cap-1) z0).toArray:=by apply Array.ext';simp
  rw[e2];exact this
 |«at»a pad ha=>
  have hold:iL σ el.z xs.length (.slice (some ⟨a,0,none⟩) xs.length (xs.length+pad.length))=some xs.toArray:=by
   rw[hz];simp only[iL,cellsOf,ha]
   cases xs with
   |nil=>simp
   |cons x xs=>simp
  refine rW el (base:=some ⟨a,0,none⟩) (l:=xs.length) (c:=xs.length+pad.length) (n:=1) (old:=xs.toArray) (new:=#[w]) hu hx hn hold iF (gR _ fM) aa ?_ ?_
  ·intro hc;have:=h a (pad.drop 1) (.inr ⟨_,rfl⟩);have e1:xs.length+1+(pad.drop 1).length=xs.length+pad.length:=by simp;omega
   rw[e1]at this;refine⟨_,⟨_,_,ha,rfl,by simp[hz]at hc|-;omega,by simp[hw],rfl⟩,?_⟩
   have e2:((xs++pad).toArray.extract 0 ((⟨a,0,none⟩:Addr).off+xs.length*el.z)++ #[w]++(xs++pad).toArray.extract ((⟨a,0,none⟩:Addr).off+xs.length*el.z+(#[w]:Array Value).size) (xs++pad).toArray.size)=(xs++[w]++pad.drop 1).toArray:=by apply Array.ext';simp[hz,List.drop_append];rw[List.drop_eq_nil_of_le aa,List.nil_append,List.take_of_length_le (by simp;omega)]
   rw[e2];exact this
  ·intro hc b cap eS jJ;have:=h b (List.replicate (cap-(xs.length+1)) z0) (.inl eS);have e1:xs.length+1+(List.replicate (cap-(xs.length+1)) z0).length=cap:=by simp;omega
   rw[e1]at this;rw[hzero,ES]
   have e2:(xs.toArray++ #[w]++(List.replicate (cap-(xs.length+1)) z0).toArray:Array Value)=(xs++[w]++List.replicate (cap-(xs.length+1)) z0).toArray:=by apply Array.ext';simp
   rw[e2];exact this
variable {r:Loop}
structure tb (ety jQ:TypeId) (bb lb d:Nat) (r:Loop) (X:Hp) (xs:List Value) (σ:Hp):Prop where
 ext:X.le σ
 nb:X.f bb=none
 nl:X.f lb=none
 nd:X.f d=none
 loop:σ.f lb=some (.loop r)
 vf:σ.f d=some (.deferred (some []))
 cell:∃v,σ.f bb=some (.cells #[v] jQ (0,0))/\Sl ety σ xs v/\∀a n c,v=.slice (some a) n c->X.f a.block=none
variable {ety:TypeId}{τ:Hp}
theorem Sl.keep{v:Value}(h:Sl ety σ xs v)(k:∀a n c,v=.slice (some a) n c->τ.f a.block=σ.f a.block):Sl ety τ xs v:=by
 cases h with
 |nil h=>exact .nil h
 |«at»a pad h=>exact .at a pad (by rw[k _ _ _ rfl];exact h)
variable {bb d:Nat}{X:Hp}{jQ:TypeId}{b:Nat}{o:Obj}
theorem tb.apart(h:tb ety jQ bb lb d r X xs σ)(hX:X.f b=some o):b≠bb/\b≠lb/\b≠d:=by
 refine⟨?_,?_,?_⟩<;>(intro e;subst e)
 ·rw[h.nb]at hX;cases hX
 ·rw[h.nl]at hX;cases hX
 ·rw[h.nd]at hX;cases hX
theorem gW(h:X.le σ)(b:Nat)(o:Obj):(X.set b o).le (σ.set b o):=by
 intro x y hx;by_cases e:x=b
 ·subst e;rw[Hp.bD]at hx|-;exact hx
 ·rw[Hp.aO _ e]at hx|-;exact h _ _ hx
theorem tb.new(h:tb ety jQ bb lb d r X xs σ)(hb:σ.f b=none):tb ety jQ bb lb d r (X.set b o) xs (σ.set b o):=by
 obtain⟨v,h1,h2,h3⟩:=h.cell;have n1:bb≠b:=bp h1 hb;have n2:lb≠b:=λe=>by subst e;have:=h.loop;rw[hb]at this;cases this
 have n3:d≠b:=λe=>by subst e;have:=h.vf;rw[hb]at this;cases this
 have n4:∀a n c,v=.slice (some a) n c->a.block≠b:=by
  intro a n c e e2
  cases h2 with
  |nil=>cases e
  |«at»a' pad ha=>cases e;subst e2;rw[hb]at ha;cases ha
 refine⟨gW h.ext _ _,by rw[Hp.aO _ n1];exact h.nb,by rw[Hp.aO _ n2];exact h.nl,by rw[Hp.aO _ n3];exact h.nd,by rw[Hp.aO _ n2];exact h.loop,by rw[Hp.aO _ n3];exact h.vf,
  v,by rw[Hp.aO _ n1];exact h1,h2.keep λa n c e=>Hp.aO _ (n4 a n c e),λa n c e=>by rw[Hp.aO _ (n4 a n c e)];exact h3 a n c e⟩
theorem tb.upd(h:tb ety jQ bb lb d r X xs σ){o':Obj}(hb:X.f b=some o'):tb ety jQ bb lb d r (X.set b o) xs (σ.set b o):=by
 obtain⟨v,h1,h2,h3⟩:=h.cell;obtain⟨n1,n2,n3⟩:=h.apart hb;have n1:=n1.symm;have n2:=n2.symm;have n3:=n3.symm;have n4:∀a n c,v=.slice (some a) n c->a.block≠b:=λa n c e e2=>by have:=h3 a n c e;rw[e2,hb]at this;cases this
 refine⟨gW h.ext _ _,by rw[Hp.aO _ n1];exact h.nb,by rw[Hp.aO _ n2];exact h.nl,by rw[Hp.aO _ n3];exact h.nd,by rw[Hp.aO _ n2];exact h.loop,by rw[Hp.aO _ n3];exact h.vf,
  v,by rw[Hp.aO _ n1];exact h1,h2.keep λa n c e=>Hp.aO _ (n4 a n c e),λa n c e=>by rw[Hp.aO _ (n4 a n c e)];exact h3 a n c e⟩
inductive yl:FuncId->TypeId->TypeId->Prop
 |YD:yl 133 22 3
 |YE:yl 136 75 77
 |YL:yl 239 49 9
noncomputable def ra(fs:FuncId):Func:=(prog.funcs[fs]?).getD default
noncomputable def BS(fs:FuncId):Code:=(ra fs).body.getD .skip
noncomputable def Qp(fs:FuncId):Array Oper:=bK (bM (BS fs))
noncomputable def AF(fs:FuncId):Array Oper:=bK (bM (bM (aQ (BS fs))))
noncomputable def Hf(fs:FuncId):Code:=dL (aQ (bM (aQ (BS fs))))
noncomputable def tS(fs:FuncId):Array Oper:=bK (bM (aQ (aQ (BS fs))))
def NV:Code->Code| .rangeFunc _ _ a _=>a|c=>c
def Oh:Code->Code| .rangeFunc _ _ _ b=>b|c=>c
noncomputable def yo(fs:FuncId):Array Oper:=bK (NV (Hf fs))
noncomputable def yq(fs:FuncId):Array Oper:=bK (dL (Oh (Hf fs)))
def bS(fs:FuncId):Frame:={(default:Frame)with fn:=fs,kind:=.normal}
theorem BP:BS 133=f133.body.getD .skip:=by unfold BS ra;rw[func133];rfl
theorem BQ:BS 136=f136.body.getD .skip:=by unfold BS ra;rw[func136];rfl
theorem BR:BS 239=f239.body.getD .skip:=by unfold BS ra;rw[func239];rfl
def e22:ou prog 22 where
 e:=3
 z:=1
 zero:=#[.int .i64 0]
 bytes:=8
 hu:=ah
 hi:=⟨t3,.int .i64 0,ah,ah,ah,rfl,ah⟩
def e75:ou prog 75 where
 e:=77
 z:=1
 zero:=#[.pointer none]
 bytes:=8
 hu:=ah
 hi:=⟨t77,.pointer none,ah,ah,ah,rfl,ah⟩
def e49:ou prog 49 where
 e:=9
 z:=1
 zero:=#[.string (B [])]
 bytes:=16
 hu:=ah
 hi:=⟨t9,.string (B []),ah,ah,ah,rfl,ah⟩
section
variable {fs:FuncId}{jQ ety:TypeId}(k:yl fs jQ ety)
include k
theorem PF:prog.funcs[fs]? =some (ra fs):=by
 unfold ra
 cases k<;>simp only[func133,func136,func239,Option.getD_some]
theorem abA:(ra fs).ntmps=13:=by cases k<;>kernel_rfl
theorem abz:(ra fs).body=some (BS fs):=by cases k<;>kernel_rfl
theorem yl.ne:jQ≠ety:=by cases k<;>decide
theorem Vw:BS fs=.seq (.region 0 (Qp fs) false) (.seq (.seq (.region 1 (AF fs) false) (.block 0 (.rangeFunc (.tmp 6) #[7] (.region 2 (yo fs) false) (.block 1 (.region 3 (yq fs) false))))) (.seq (.region 4 (tS fs) false) .ret)):=by cases k<;>kernel_rfl
end
variable {E:Env prog}{fs:FuncId}
theorem ZP(k:yl fs jQ ety){T:Array Value}(hT:T.size=13)(h2:T.getD 2 undef=pV bb):
 EV E lb 7 {state:=.ready,pending:=none,fn:=fs,tmps:=T,params:=#[7],assign:=.region 2 (yo fs) false,body:=.block 1 (.region 3 (yq fs) false),defers:=d}
  (tb ety jQ bb lb d {state:=.ready,pending:=none,fn:=fs,tmps:=T,params:=#[7],assign:=.region 2 (yo fs) false,body:=.block 1 (.region 3 (yq fs) false),defers:=d}):=by
 refine⟨rfl,λh=>h.loop,λh=>h.ext,λh hb=>h.new hb,λh hb=>h.upd hb,?_⟩;intro X xs σ h v c cs bj xp;rw[ani]
 obtain⟨mo,ha,r2,r7⟩:∃mo:av,cJ 13 ⟨T.setIfInBounds 7 v,[]⟩ mo []/\mo 2=pV bb/\mo 7=v:=by
  refine⟨λt=>(T.setIfInBounds 7 v).getD t undef,⟨by simp[hT],rfl,λt=>rfl⟩,?_,?_⟩
  ·show(T.setIfInBounds 7 v).getD 2 undef=_;rw[Array.getD_eq_getD_getElem?,Array.getElem?_setIfInBounds_ne ai,<-Array.getD_eq_getD_getElem?,h2]
  ·show(T.setIfInBounds 7 v).getD 7 undef=_;rw[Array.getD_eq_getD_getElem?,Array.getElem?_setIfInBounds_self_of_lt (by rw[hT];decide)];rfl
 refine ax.ctl (λw=>UD) rfl rfl ?_;refine(U8 (E:=E) (N:=13) (ops:=yo fs) (X:=λρ ds τ=>ds=[]/\ρ 2=pV bb/\ρ 5=v/\τ=σ) (by simp[wx]) (by cases k<;>kernel_rfl) _ mo [] σ _ ?_ ha).bind ?_
 ·have hr:List.range (yo fs).size=[0]:=by cases k<;>kernel_rfl
  rw[hr]
  cases k
  all_goals
   simp only[yo,Hf,BP,BQ,BR,f133,f136,f239,Option.getD_some,aQ,bM,dL,bK,NV];simp only[List.filterMap_cons,List.filterMap_nil,List.getElem?_toArray,List.getElem?_cons_zero];simp only[go_sem,seval,aB,up,jO,r2,r7]
 rintro g τ ⟨pY,_,a1,da,⟨rfl,oF,ky,rfl⟩,rfl⟩;refine ax.step rfl (aov h.loop rfl) ?_;rintro g cC ⟨rfl,rfl⟩;refine ax.ctl (λw=>aop) rfl rfl ?_;refine ax.ctl (λw=>UD) rfl rfl ?_;obtain⟨v0,c1,c2,c3⟩:=h.cell;have Lr:bb≠lb:=λe=>by subst e;have:=h.loop;rw[c1]at this;cases this
 have nbd:bb≠d:=λe=>by subst e;have:=h.vf;rw[c1]at this;cases this
 have S9:lb≠d:=λe=>by subst e;have:=h.loop;rw[h.vf]at this;cases this
 generalize rD:τ.set lb _=fy;have u9:fy.f bb=some (.cells #[v0] jQ (0,0)):=by rw[<-rD,Hp.aO _ Lr];exact c1
 have xE:∀a n c,v0=.slice (some a) n c->a.block≠lb/\a.block≠bb/\a.block≠d/\∃cc e z,τ.f a.block=some (.cells cc e z):=by
  intro a n c e
  cases c2 with
  |nil=>cases e
  |«at»a' pad dD=>
   cases e
   refine⟨λe=>?_,λe=>?_,λe=>?_,_,_,_,dD⟩<;>(have e':=e;simp only at e';subst e')
   ·rw[h.loop]at dD;cases dD
   ·rw[c1]at dD;simp[k.ne]at dD
   ·rw[h.vf]at dD;cases dD
 have YI:Sl ety fy xs v0:=c2.keep λa n c e=>by rw[<-rD,Hp.aO _ (xE a n c e).1]
 refine(U8 (E:=E) (N:=13) (ops:=yq fs) (X:=λρ ds cC=>ds=[]/\∃cM,cM.le cC/\(∃v',cM.f bb=some (.cells #[v'] jQ (0,0))/\Sl ety cM (xs++[v]) v'/\∀a n c,v'=.slice (some a) n c->X.f a.block=none)/\(∀b o,b≠bb->(∀a n c,v0=.slice (some a) n c->b≠a.block)->fy.f b=some o->cM.f b=some o)) (by simp[wx]) (by cases k<;>kernel_rfl) _ pY [] fy _ ?_ da).bind ?_
 ·have hr:List.range (yq fs).size=[0,1,2,3,4]:=by cases k<;>kernel_rfl
  rw[hr];have SZ:∀bn,fy.f bn=none->bb≠bn:=λbn cz e=>by subst e;rw[u9]at cz;cases cz
  have YH:∀bn,fy.f bn=none->∀o,(fy.set bn o).f bb=some (.cells #[v0] jQ (0,0)):=λbn cz o=>by rw[Hp.aO _ (SZ bn cz)];exact u9
  have YM:∀bn,fy.f bn=none->∀o,Sl ety (fy.set bn o) xs v0:=λbn cz o=>YI.keep λa n c e=>by
   refine Hp.aO _ λe2=>?_;have:=xE a n c e;obtain⟨m1,m2,m3,cc,ee,z,m4⟩:=this;have m5:fy.f a.block=τ.f a.block:=by rw[<-rD];exact Hp.aO _ m1
   rw[m4,e2,cz]at m5;cases m5
  have lst:∀(bn a:Nat) (pad:List Value) (o1 o2:Obj),a≠bb->Sl ety (((fy.set bn o1).set a (.cells (xs++[v]++pad).toArray ety (0,0))).set bb o2) (xs++[v]) (.slice (some ⟨a,0,none⟩) (xs.length+1) (xs.length+1+pad.length)):=λbn a pad o1 o2 di=>by have:=Sl.at (ety:=ety) (σ:=(((fy.set bn o1).set a (.cells (xs++[v]++pad).toArray ety (0,0))).set bb o2)) (xs:=xs++[v]) a pad (by rw[Hp.aO _ di];exact Hp.bD _ _);simpa using this
  cases k
  all_goals
   simp only[yq,Hf,BP,BQ,BR,f133,f136,f239,Option.getD_some,aQ,bM,dL,bK,Oh];simp only[List.filterMap_cons,List.filterMap_nil,List.getElem?_toArray,List.getElem?_cons_succ,List.getElem?_cons_zero];simp only[go_sem,seval,aB,up,oF,ky,u9];have RH:Value.cells v= #[v]:=OD xp;unfold Value.cells at RH;simp only[RH];refine ag ?_;refineλbn cz=>?_;have nbn:=SZ bn cz;have Oo:=YH bn cz;have Iu:=YM bn cz;refine ag ?_
   first|refine app1 e22 rfl ai rfl ah (Iu _) rfl rfl aY xp aa ?_|refine app1 e75 rfl ai rfl ah (Iu _) rfl rfl aY xp aa ?_|refine app1 e49 rfl ai rfl ah (Iu _) rfl rfl aY xp aa ?_
   intro a pad pL
   have di:a≠bb:=by
    rcases pL with pL|⟨c,e⟩
    ·intro e;subst e;rw[Oo]at pL;cases pL
    ·exact(xE _ _ _ e).2.1
   have hXa:X.f a=none:=by
    rcases pL with pL|⟨c,e⟩
    ·cases hx:X.f a with
     |none=>rfl
     |some o=>
      have h1:=h.ext _ _ hx;have h2:a≠lb:=bp hx h.nl
      have h3:a≠bn:=λe=>by subst e;rw[<-rD,Hp.aO _ h2]at cz;rw[cz]at h1;cases h1
      rw[Hp.aO _ h3,<-rD,Hp.aO _ h2,h1]at pL;cases pL
    ·exact c3 _ _ _ e
   have aeL:∀b o,b≠bb->(∀a n c,v0=.slice (some a) n c->b≠a.block)->fy.f b=some o->b≠a/\b≠bn:=by
    intro b o h1 h2 h3;have hn:b≠bn:=bp h3 cz;refine⟨λe=>?_,hn⟩;subst e;rcases pL with pL|⟨c,e⟩
    ·rw[Hp.aO _ hn,h3]at pL;cases pL
    ·exact h2 _ _ _ e rfl
   have YG:=λo o'=>(Hp.aO (σ:=fy.set bn o) o' di.symm).trans (Oo o);simp only[go_sem,seval,aB,up,jO,oF,YG];refine⟨_,Hp.le_refl _,⟨_,aY,?_,?_⟩,?_⟩
   ·exact lst _ _ _ _ _ di
   ·intro a' n c e
    cases e
    exact hXa
   ·intro b o h1 h2 h3;obtain⟨k1,k2⟩:=aeL b o h1 h2 h3;rw[Hp.aO _ h1,Hp.aO _ k1,Hp.aO _ k2];exact h3
 rintro g cC ⟨lR,_,a2,gp,⟨rfl,cM,hle,kN,Dq⟩,rfl⟩;refine ax.ik (τ:=cM) ?_ hle;refine ax.ctl (λw=>aoq) rfl rfl ?_;have Rf:cM.f lb=_:=Dq lb _ (Ne.symm Lr) (λa n c e=>(xE a n c e).1.symm) (by rw[<-rD];exact Hp.bD _ _);have ed:a2.defers=[]:=gp.defers;obtain⟨tm2,d2⟩:=a2;subst ed;refine ax.step rfl (aox Rf) ?_;rintro g gX ⟨rfl,rfl⟩;refine ax.here ⟨rfl,?_⟩;obtain⟨v',e1,e2,e3⟩:=kN
 have hk:∀b o,X.f b=some o->cM.f b=some o:=by intro b o hb;obtain⟨n1,n2,n3⟩:=h.apart hb;refine Dq b o n1 (λa n c e e2=>by have:=c3 a n c e;rw[<-e2,hb]at this;cases this) ?_;rw[<-rD,Hp.aO _ n2];exact h.ext _ _ hb
 refine⟨?_,h.nb,h.nl,h.nd,aY,?_,v',?_,?_,e3⟩
 ·intro b o hb;rw[Hp.aO _ (h.apart hb).2.1];exact hk b o hb
 ·rw[Hp.aO _ S9.symm];refine Dq d _ nbd.symm (λa n c e=>(xE a n c e).2.2.1.symm) ?_;rw[<-rD,Hp.aO _ S9.symm];exact h.vf
 ·rw[Hp.aO _ Lr];exact e1
 ·refine e2.keep λa n c e=>Hp.aO _ λe5=>?_;subst e
  cases e2 with
  |«at»a' pad dD=>
   have e6:a'=lb:=e5;subst e6;rw[Rf]at dD;cases dD
def Ip(k:yl fs jQ ety){pick:α×Value×Nat->Value}{tc:TypeId}(hY:Yields f pick key tc)(hg:cf prog f=true){bm m:Nat}{l:List (α×Value×Nat)}(dF:σ.f bm=some (.cells #[.map (some m)] tc (0,0)))(hm:σ.f m=some (aU key l c))(hold:∀e∈l,e.2.2<c)(hn:(l.map (·.2.2)).Nodup)(gq:l.length<=1000000)(kA:∀e∈l,de (pick e)=true):
 ay E fs #[.slice none 0 0,.func (.func f) #[] #[pV bm]] σ λe τ=>σ.le τ/\∃v ks,e=.returned v/\ks.Perm (l.map pick)/\Sl ety τ ks v/\∀a n c,v=.slice (some a) n c->σ.f a.block=none:=by
 intro cs
 have oK:Frame.enter prog fs #[.slice none 0 0,.func (.func f) #[] #[pV bm]] .normal=(bS fs).at {tmps:=#[.slice none 0 0,.func (.func f) #[] #[pV bm]]++Array.replicate 11 undef,defers:=[]} [.code (BS fs)]:=by simp[Frame.enter,Frame.at,PF k,bS,abA k,abz k]
 rw[oK,Vw k];have ha:=rV #[.slice none 0 0,.func (.func f) #[] #[pV bm]] 13 al;refine ax.ctl (λw=>stepG_seq) rfl rfl ?_;refine(np (E:=E) (N:=13) (X:=λρ ds τ=>ds=[]/\∃bb,ρ 2=pV bb/\ρ 1=.func (.func f) #[] #[pV bm]/\σ.f bb=none/\τ=σ.set bb (.cells #[.slice none 0 0] jQ (0,0))) ?_ (by simp[bS]) ha).bind ?_
 ·cases k
  all_goals
   simp only[Qp,BP,BQ,BR,f133,f136,f239,Option.getD_some,bM,bK];refine ag ?_;refineλbb eS=>?_;simp only[go_sem,seval,aB];exact⟨rfl,bb,by simp[up],by simp[up,nB],eS,rfl⟩
 rintro g τ ⟨pY,_,a1,da,⟨rfl,bb,h2,h1,eS,rfl⟩,rfl⟩;generalize fE:σ.set bb (.cells #[.slice none 0 0] jQ (0,0))=τ;have JJ:τ.f bb=some (.cells #[.slice none 0 0] jQ (0,0)):=by rw[<-fE];exact Hp.bD _ _
 have R1:∀b o,σ.f b=some o->b≠bb/\τ.f b=some o:=by intro b o hb;have:b≠bb:=bp hb eS;exact⟨this,by rw[<-fE,Hp.aO _ this];exact hb⟩
 refine ax.ctl (λw=>stepG_seq) rfl rfl ?_;refine ax.ctl (λw=>stepG_seq) rfl rfl ?_;refine(np (E:=E) (N:=13) (X:=λρ ds cC=>ds=[]/\ρ 2=pV bb/\ρ 6=.func (.func f) #[] #[pV bm]/\cC=τ) ?_ (by simp[bS]) da).bind ?_
 ·cases k
  all_goals
   simp only[AF,BP,BQ,BR,f133,f136,f239,Option.getD_some,aQ,bM,bK];simp only[go_sem,seval,aB];exact⟨rfl,by simp[up,h2],by simp[up,h1],rfl⟩
 rintro g cC ⟨lR,_,a2,gp,⟨rfl,h2,h6,rfl⟩,rfl⟩;refine ax.ctl (λw=>stepG_block) rfl rfl ?_;refine ax.step rfl (aoC (fid:=f) (cap:=#[pV bm]) (by rw[gp.eval];exact h6) hg rfl) ?_;rintro g fH ⟨d,lb,hd,aE,Da,GF,rfl⟩;have hT:a2.tmps.size=13:=gp.size;have hT2:a2.tmps.getD 2 undef=pV bb:=by rw[gp.tmps];exact h2
 have C:=ZP k (E:=E) (lb:=lb) (d:=d) hT hT2;have S8:lb≠bb:=bp Da JJ;have ndb:d≠bb:=bp hd JJ
 have af7:∀b o,σ.f b=some o->fH.f b=some o:=by intro b o hb;obtain⟨k1,k2⟩:=R1 b o hb;have k3:b≠d:=bp hd k2;have k4:b≠lb:=bp Da k2;rw[GF,Hp.aO _ k4,Hp.aO _ k3];exact k2
 have tL:∀b,cC.f b=none->σ.f b=none:=by
  intro b hb
  cases hs:σ.f b with
  |none=>rfl
  |some o=>rw[(R1 b o hs).2]at hb;cases hb
 have FB:tb ety jQ bb lb d {state:=.ready,pending:=none,fn:=fs,tmps:=a2.tmps,params:=#[7],assign:=.region 2 (yo fs) false,body:=.block 1 (.region 3 (yq fs) false),defers:=d} σ [] fH:=by
  refine⟨af7,eS,tL _ Da,tL _ hd,?_,?_,.slice none 0 0,?_,.nil rfl,λa n c e=>by cases e⟩
  ·rw[GF];exact Hp.bD _ _
  ·rw[GF,Hp.aO _ aE.symm];exact Hp.bD _ _
  ·rw[GF,Hp.aO _ S8.symm,Hp.aO _ ndb.symm];exact JJ
 have JO:=hY C FB dF hm hold hn (aZ gq) kA;have aaG:(#[.func (.yield lb) #[] #[]]++ #[pV bm]:Array Value)= #[.func (.yield lb) #[] #[],pV bm]:=rfl;rw[aaG];refine ay.run JO ?_ ?_
 ·rintro v gX ⟨hv,X',ks,hp,wY,hA⟩;rw[List.nil_append]at hA;have eV:((bS fs).at {a2 with defers:={target:=.collected d,args:=#[]}::a2.defers} (.inRangeFunc lb:: .inBlock 0:: .code ((Code.region 4 (tS fs) false).seq Code.ret)::[])).finish v=(bS fs).at {a2 with defers:={target:=.collected d,args:=#[]}::a2.defers} (.endRangeFunc lb:: .inBlock 0:: .code ((Code.region 4 (tS fs) false).seq Code.ret)::[]):=rfl;rw[eV];refine ax.step rfl (aow hA.loop rfl rfl) ?_;rintro g wH ⟨rfl,rfl⟩;refine ax.ctl (λw=>stepG_inBlock) rfl rfl ?_;refine ax.ctl (λw=>stepG_seq) rfl rfl ?_;obtain⟨v',c1,c2,c3⟩:=hA.cell
  have xE:∀a n c,v'=.slice (some a) n c->a.block≠lb/\a.block≠d:=by
   intro a n c e
   cases c2 with
   |nil=>cases e
   |«at»a' pad dD=>
    cases e
    refine⟨λe=>?_,λe=>?_⟩<;>(have e':=e;simp only at e';subst e')
    ·rw[hA.loop]at dD;cases dD
    ·rw[hA.vf]at dD;cases dD
  generalize GG:gX.set lb _=pc;have AI:pc.f d=some (.deferred (some [])):=by rw[<-GG,Hp.aO _ aE.symm];exact hA.vf
  have CM:pc.f bb=some (.cells #[v'] jQ (0,0)):=by rw[<-GG,Hp.aO _ S8.symm];exact c1
  have hs7:Sl ety pc ks v':=c2.keep λa n c e=>by rw[<-GG,Hp.aO _ (xE a n c e).1]
  have af8:σ.le pc:=by intro b o hb;have h1:=wY b o hb;rw[<-GG,Hp.aO _ (hA.apart h1).2.1];exact hA.ext _ _ h1
  have CI:cJ 13 {a2 with defers:={target:=.collected d,args:=#[]}::a2.defers} lR [{target:=.collected d,args:=#[]}]:=gp.defer _;refine(np (E:=E) (N:=13) (X:=λρ ds cC=>ds=[{target:=.collected d,args:=#[]}]/\ρ 4=v'/\cC=pc) ?_ (by simp[bS]) CI).bind ?_
  ·cases k
   all_goals
    simp only[tS,BP,BQ,BR,f133,f136,f239,Option.getD_some,aQ,bM,bK];simp only[go_sem,seval,aB,up,h2,CM];exact⟨rfl,by simp[up],rfl⟩
  rintro g cC ⟨ρ8,_,a8,oI,⟨rfl,h4,rfl⟩,rfl⟩;refine ax.ctl (g':=G {(bS fs).at a8 [.code .ret]with mode:=.returning} cs) (λw=>?_) rfl rfl ?_
  ·simp[G,stepG,stepG.exec,Frame.at]
  refine ax.step rfl (aoA (d:=d) AI rfl oI.defers) ?_;rintro g uP ⟨rfl,rfl⟩;have nX:∀b o,σ.f b=some o->b≠d:=λb o hb e=>by subst e;have:=tL _ hd;rw[this]at hb;cases hb
  refine ax.here ⟨.returned v',_,rfl,rfl,⟨rfl,rfl,rfl,ra fs,PF k,?_⟩,?_,v',ks,rfl,hp,?_,?_⟩
  ·show wpS _ (results (ra fs) a8.tmps) _ _ _;rw[wv (fn:=ra fs) oI];have h0:(ra fs).results= #[.tmp 4]:=by cases k<;>kernel_rfl
   simp[Bt,h0,bq,h4]
  ·intro b o hb;rw[Hp.aO _ (nX b o hb)];exact af8 b o hb
  ·exact hs7.keep λa n c e=>Hp.aO _ (xE a n c e).2
  ·intro a n c e
   cases hs:σ.f a.block with
   |none=>rfl
   |some o=>have:=wY _ _ hs;rw[c3 a n c e]at this;cases this
 ·rintro ch gX ⟨hv,_⟩
  cases hv
theorem KO{i:Int}:ay E 214 #[.int .i64 i] σ λe' ae=>e'=.returned (.bool false)/\ae=σ:=by refine aW func214 ntmps214 results214 λQ aC an aA=>?_;refine ag ?_;refine an aI ao ⟨?_,rfl⟩;simp[up]
theorem KP{l:List UInt8}:ay E 86 #[.string (B l)] σ λe' ae=>e'=.returned (.bool false)/\ae=σ:=by refine aW func86 ntmps86 results86 λQ aC an aA=>?_;refine ag ?_;refine an aI ao ⟨?_,rfl⟩;simp[up]
theorem oS{i j:Int}:ay E 168 #[.int .i64 i,.int .i64 j] σ λe' ae=>e'=.returned (.bool (decide (i<j)))/\ae=σ:=by refine aW func168 ntmps168 results168 λQ aC an aA=>?_;refine ag ?_;refine aR KO ?_;refine ag ?_;exact an aI ao ⟨rfl,rfl⟩
variable {i j:List UInt8}
theorem aiy:ay E 262 #[.string (B i),.string (B j)] σ λe' ae=>e'=.returned (.bool (Op.bytesLess i j))/\ae=σ:=by refine aW func262 ntmps262 results262 λQ aC an aA=>?_;refine ag ?_;refine aR KP ?_;refine ag ?_;exact an aI ao ⟨rfl,rfl⟩
theorem ZU:ay E 52 #[.string (B i),.string (B j)] σ λe' ae=>e'=.returned (.int .i64 (if Op.bytesLess i j then-1 else if i=j then 0 else 1))/\ae=σ:=by
 refine aW func52 ntmps52 results52 λQ aC an aA=>?_;refine ag ?_;refine aR KP ?_;refine ag ?_;refine aR KP ?_;refine ag ?_
 cases h1:Op.bytesLess i j with
 |true=>
  refine ag ?_;exact an aI ao ⟨by simp[h1,up],rfl⟩
 |false=>
  refine aG h1 ?_;by_cases h2:i=j
  ·subst h2;refine ag ?_;exact an aI ao ⟨by simp[h1,up],rfl⟩
  ·simp only[go_sem,seval,h2,decide_false,Bool.not_false];exact an aI ao ⟨by simp[h1,h2,up],rfl⟩
theorem Ol(l:List UInt8)(i:Nat):(l.getD i 0).toNat<=255:=by have:=(l.getD i 0).toNat_lt;omega
theorem Yx(l:List UInt8)(i:Nat):IntKind.i64.wrap (0+IntKind.i64.wrap (pr l i))=((l.getD i 0).toNat:Int):=by have h:=Ol l i;unfold pr;have e:=wrap64 (n:=((l.getD i 0).toNat:Int)) aa aa;rw[e,Int.zero_add,e]
theorem ain{n:Nat}(hn:n<=255):ay E 172 #[.int .u64 n] σ λe' ae=>(∃k:Nat,k<=255/\e'=.returned (.int .i64 k))/\ae=σ:=by
 refine aW func172 ntmps172 results172 λQ aC an aA=>?_;have c0:¬(4294967296:Int)<=n:=aa;have c1:¬(65536:Int)<=n:=aa;have c2:¬(256:Int)<=n:=aa;refine bO c0 c1 c2 ?_
 have e8:IntKind.u8.wrap (n:Int)=n:=by have:((n:Int) % 256)=n:=aa;simpa[IntKind.wrap,IntKind.bits,IntKind.signed]using this
 rw[e8];refine⟨⟨aa,Int.lt_of_le_of_lt (b:=255) aa ir⟩,?_⟩;refine ag ?_;exact an aI ao ⟨⟨_,Ol _ _,congrArg (λx=>Fin.returned (.int .i64 x)) (Yx _ _)⟩,rfl⟩
theorem Sp{n:Nat}(hn:n<=255):ay E 135 #[.int .u64 n] σ λe' ae=>(∃k:Nat,k<=255/\e'=.returned (.int .i64 k))/\ae=σ:=by
 refine aW func135 ntmps135 results135 λQ aC an aA=>?_;refine ag ?_;refine aL (ain hn) ?_;rintro v ae ⟨⟨k,hk,hv⟩,rfl⟩
 cases hv
 refine ag ?_;exact an aI ao ⟨⟨k,hk,rfl⟩,rfl⟩
end Go.Qw
