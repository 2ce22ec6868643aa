/- 17 -/
import Derived.Test.YtpiabknabfbfhaaGreatDoorFramed16
set_option linter.all false
set_option maxRecDepth 100000
set_option maxHeartbeats 8000000
namespace Go.Qw
open Go Go.Conc Go.Proofs Go.Proofs.Tryz
inductive yh:(α:Type)->FuncId->TypeId->(α->Value)->Prop
 |Zd:yh Int 82 72 aW
 |Y5:yh Int 181 88 aW
 |Za:yh Int 222 273 aW
 |Y9:yh (List UInt8) 220 274 bP
noncomputable def qw(f:FuncId):Func:=(prog.funcs[f]?).getD default
noncomputable def BI(f:FuncId):Code:=(qw f).body.getD .skip
noncomputable def iI(f:FuncId):Array Oper:=bK (bM (BI f))
noncomputable def LI(f:FuncId):Code:=dO (dO (aO (BI f)))
noncomputable def TN(f:FuncId):Array Oper:=bK (bM (LI f))
noncomputable def nI(f:FuncId):Code:=dO (aO (aO (LI f)))
noncomputable def TO(f:FuncId):Array Oper:=bK (bM (nI f))
noncomputable def xQ(f:FuncId):Array Oper:=bK (bM (aO (nI f)))
def bI(f:FuncId):Frame:={(default:Frame)with fn:=f,kind:=.normal}
def zS:BI 82=f82.body.getD .skip:=by unfold BI qw;rw[func82];rfl
def zP:BI 181=f181.body.getD .skip:=by unfold BI qw;rw[func181];rfl
def zR:BI 222=f222.body.getD .skip:=by unfold BI qw;rw[func222];rfl
def zQ:BI 220=f220.body.getD .skip:=by unfold BI qw;rw[func220];rfl
structure FI (lb it:Nat) (I:av):Prop where
 y:I 0=.func (.yield lb) #[] #[]
 i:I 5=pV it
section
variable {α:Type}{f:FuncId}{T:TypeId}{key:α->Value}(k:yh α f T key)
include k
def PK:prog.funcs[f]? =some (qw f):=by
 unfold qw
 cases k<;>simp only[func82,func181,func222,func220,Option.getD_some]
def abV:(qw f).results= #[]:=by cases k<;>kernel_rfl
def abU:(qw f).ntmps=14:=by cases k<;>kernel_rfl
def abT:(qw f).body=some (BI f):=by cases k<;>kernel_rfl
def VA:BI f=.seq (.region 0 (iI f) false) (.block 0 (.loop (LI f))):=by cases k<;>kernel_rfl
def Nt:LI f=.seq (.region 1 (TN f) false) (.seq (.cond (.tmp 7) .skip (.exit 0)) (.block 1 (nI f))):=by cases k<;>kernel_rfl
def SZ:nI f=.seq (.region 2 (TO f) false) (.seq (.region 3 (xQ f) false) (.cond (.tmp 13) .ret .skip)):=by cases k<;>kernel_rfl
def amy:∃ps af t,(xQ f)[2]? =some {dst:=some 12,op:=.call ⟨.value (.tmp 10),#[.tmp 11],#[t]⟩,type:=4,pos:=ps,after:=af,guard:=none}:=by cases k<;>exact⟨_,_,_,by simp only[xQ,nI,LI,zS,zP,zR,zQ,f82,f181,f222,f220,Option.getD_some,aO,bM,dO,bK];rfl⟩
end
section
variable {E:Env prog}{lb:Nat}{p:Tmp}{r:Loop}{c:Nat}{m:Nat}{cs:List Frame}
variable {α:Type}{f:FuncId}{T:TypeId}{key:α->Value}{A:Hp->List Value->Hp->Prop}{l:List (α×Value×Nat)}
def ai0 (k:yh α f T key)(C:E2 E lb p r A)(hold:∀e∈l,e.2.2<c)(hn:(l.map (·.2.2)).Nodup){X0:Hp}{xs:List Value}{it:Nat}(fR:xs.length+l.length<=1000000)(kI:∀e∈l,di (key e.1)=true):∀(n:Nat) (done rem:List (α×Value×Nat)) (seen:Array Nat) (X U:Hp) (I:av) (a:Act),rem.length<n->Left l done rem seen->X0.le X->
 A X (xs++done.map λe=>key e.1) U->X.f it=some (.mapIter (some m) c seen c)->X0.f it=none->X.f m=some (aU key l c)->it≠m->FI lb it I->cM 14 a I []->
 ax E (G ((bI f).at a (.code (LI f):: .inLoop (LI f):: .inBlock 0::[])) cs) U λg R=>∃e fr,g=G fr cs/\fr.fn=f/\Leaving prog fr R e/\
  (e=.returned (.tuple #[])/\∃X' ks,ks.Perm (l.map λe=>key e.1)/\X0.le X'/\A X' (xs++ks) R):=by
 intro n
 induction n with
 |zero=>intro _ _ _ _ _ _ _ h;omega
 |succ n ih=>
  intro done rem seen X U I a hlen hL hX hA hit h0 hm aE hF ha;have Kf:=C.ext hA _ _ hit;have vF:=C.ext hA _ _ hm;rw[Nt k];refine ax.ctl (λw=>stepG_seq) rfl rfl ?_;refine(nB (E:=E) (N:=14) (X:=λI ds R=>ds=[]/\FI lb it I/\((I 7=.bool true/\∃e∈l,e.2.2∉seen/\R=U.set it (.mapIter (some m) c (seen.push e.2.2) c))\/(I 7=.bool false/\(∀e∈l,e.2.2∈seen)/\R=U))) ?_ (by simp[bI]) ha).bind ?_
  ·cases k
   all_goals
    simp only[TN,LI,zS,zP,zR,zQ,f82,f181,f222,f220,Option.getD_some,aO,bM,dO,bK];refine ag ?_;refine Ta hF.i Kf vF hold ?_ ?_
    ·intro e he hs;simp only[go_sem,seval,aA,up];exact⟨rfl,⟨by simp[up,hF.y],by simp[up,hF.i]⟩,.inl ⟨by simp[up],e,he,hs,rfl⟩⟩
    ·intro hs;simp only[go_sem,seval,aA,up];exact⟨rfl,⟨by simp[up,hF.y],by simp[up,hF.i]⟩,.inr ⟨by simp[up],hs,rfl⟩⟩
  rintro g R ⟨qg,_,a1,de,⟨rfl,nT,fC⟩,rfl⟩;refine ax.ctl (λw=>stepG_seq) rfl rfl ?_;rcases fC with⟨h7,e,he,hs,rfl⟩|⟨h7,hs,rfl⟩
  ·refine ax.ctl (λw=>stepG_cond (t:=true) (by rw[de.eval];exact h7)) rfl rfl ?_;refine ax.ctl (λw=>stepG_skip) rfl rfl ?_;refine ax.ctl (λw=>stepG_block) rfl rfl ?_;rw[SZ k];refine ax.ctl (λw=>stepG_seq) rfl rfl ?_;have yG:=C.upd (o:=.mapIter (some m) c (seen.push e.2.2) c) hA hit;have Db:(U.set it (.mapIter (some m) c (seen.push e.2.2) c)).f it=some (.mapIter (some m) c (seen.push e.2.2) c):=aT;have oW:(U.set it (.mapIter (some m) c (seen.push e.2.2) c)).f m=some (aU key l c):=by rw[Hp.aM _ (Ne.symm aE)];exact vF
   generalize fF:U.set it (.mapIter (some m) c (seen.push e.2.2) c)=R at yG Db oW;refine(nB (E:=E) (N:=14) (X:=λI ds bY=>ds=[]/\FI lb it I/\I 3=key e.1/\bY=R) ?_ (by simp[bI]) de).bind ?_
   ·cases k
    all_goals
     simp only[TO,nI,LI,zS,zP,zR,zQ,f82,f181,f222,f220,Option.getD_some,aO,bM,dO,bK];refine ag ?_;refine Pk nT.i Db oW hn he ?_;simp only[go_sem,seval,aA,up];exact⟨rfl,⟨by simp[up,nT.y],by simp[up,nT.i]⟩,by simp[up],rfl⟩
   rintro g bY ⟨lW,_,a2,gp,⟨rfl,mJ,h3,rfl⟩,rfl⟩;refine ax.ctl (λw=>stepG_seq) rfl rfl ?_;refine ax.ctl (λw=>stepG_region) rfl rfl ?_;have hr:List.range (xQ f).size=[0,1]++[2,3]:=by cases k<;>kernel_rfl
   rw[hr];refine(xX (E:=E) (N:=14) (ops:=xQ f) (Q:=jX λI ds nL=>ds=[]/\FI lb it I/\I 10=.func (.yield lb) #[] #[]/\I 11=key e.1/\nL=bY) (bI f) (by simp[bI]) _ cs [2,3] xM [0,1] lW [] bY a2 ?_ gp).bind ?_
   ·cases k
    all_goals
     simp only[xQ,nI,LI,zS,zP,zR,zQ,f82,f181,f222,f220,Option.getD_some,aO,bM,dO,bK];simp only[List.filterMap_cons,List.filterMap_nil,List.getElem?_toArray,List.getElem?_cons_succ,List.getElem?_cons_zero];simp only[go_sem,seval,aA,up,jX];exact⟨⟨by simp[up,mJ.y],by simp[up,mJ.i]⟩,by simp[mJ.y],by simp[h3]⟩
   rintro g nL ⟨HX,_,a3,sF,⟨rfl,tM,bE,bO,rfl⟩,rfl⟩;obtain⟨ps,af,tt,ho⟩:=amy k;refine ax.step rfl (UJ ho rfl (by rw[sF.eval];exact bE) (C.loop yG) C.params) ?_;rintro g dz ⟨rfl,rfl⟩
   have Ki:(xs++done.map λe=>key e.1).length<1000000:=by have h1:=hL.perm.length_eq;have h2:=List.length_pos_of_mem (hL.mem he hs);simp only[List.length_append,List.length_map]at h1|-;omega
   have hv:a3.eval (.tmp 11)=key e.1:=by rw[sF.eval];exact bO
   refine(C.round yG _ _ _ Ki (by rw[hv];exact kI e he)).bind ?_;rintro g rZ ⟨rfl,Cx⟩;rw[Frame.finish_at,ho];rw[hv]at Cx;have yK:cM 14 _ _ []:=sF.put (dst:=some 12) an (.bool true);refine(xX (E:=E) (N:=14) (ops:=xQ f) (Q:=jX λI ds nL=>ds=[]/\FI lb it I/\I 13=.bool false/\nL=rZ) (bI f) (by simp[bI]) _ cs [] xM [3] _ [] rZ _ ?_ yK).bind ?_
   ·cases k
    all_goals
     simp only[xQ,nI,LI,zS,zP,zR,zQ,f82,f181,f222,f220,Option.getD_some,aO,bM,dO,bK];simp only[List.filterMap_cons,List.filterMap_nil,List.getElem?_toArray,List.getElem?_cons_succ,List.getElem?_cons_zero];simp only[go_sem,seval,aA,up,jX];exact⟨by simp[up,tM.y],by simp[up,tM.i]⟩
   rintro g nL ⟨M9,_,a5,CK,⟨rfl,Jw,l8,rfl⟩,rfl⟩;refine ax.ctl (λw=>stepG_region_end) rfl rfl ?_;refine ax.ctl (λw=>stepG_cond (t:=false) (by rw[CK.eval];exact l8)) rfl rfl ?_;refine ax.ctl (λw=>stepG_skip) rfl rfl ?_;refine ax.ctl (λw=>stepG_inBlock) rfl rfl ?_;refine ax.ctl (λw=>stepG_inLoop) rfl rfl ?_;obtain⟨Bv,aZ,CE⟩:=hL.step hn he hs;rw[<-SZ k,<-Nt k];refine ih (done++[e]) Bv (seen.push e.2.2) (X.set it (.mapIter (some m) c (seen.push e.2.2) c)) nL M9 a5 aa CE ?_ ?_ aT h0 (by rw[Hp.aM _ (Ne.symm aE)];exact hm) aE Jw CK
   ·intro b o hb;by_cases rB:b=it
    ·subst rB;rw[h0]at hb;cases hb
    ·rw[Hp.aM _ rB];exact hX _ _ hb
   ·rw[List.map_append,<-List.append_assoc];exact Cx
  ·refine ax.ctl (λw=>stepG_cond (t:=false) (by rw[de.eval];exact h7)) rfl rfl ?_;refine ax.ctl (λw=>stepG_exit (k':=[]) rfl) rfl rfl ?_;refine ax.ctl (λw=>stepG_end) rfl rfl (ax.here ⟨.returned (.tuple #[]),_,rfl,rfl,⟨rfl,?_,rfl,qw f,?_,?_⟩,rfl,X,_,(hL.all hn hs).map _,hX,hA⟩)
   ·exact de.defers
   ·exact PK k
   ·show wpS _ (results (qw f) a1.tmps) _ _ _;rw[wC (fn:=qw f) de];simp[By,abV k,bl]
end
variable {α:Type}{f:FuncId}{key:α->Value}
def HW{T:TypeId}(k:yh α f T key):Yields f (λe:α×Value×Nat=>key e.1) key T:=by
 intro E lb p r A C X U xs l c bm m hA dK hm hold hn fR kI cs;have JV:=C.ext hA _ _ dK;have vF:=C.ext hA _ _ hm
 have oT:Frame.enter prog f #[.func (.yield lb) #[] #[],pV bm] .normal=(bI f).at {tmps:=#[.func (.yield lb) #[] #[],pV bm]++Array.replicate 12 undef,defers:=[]} [.code (BI f)]:=by simp[Frame.enter,Frame.at,PK k,bI,abU k,abT k]
 rw[oT,VA k];have ha:=sr #[.func (.yield lb) #[] #[],pV bm] 14 ak;refine ax.ctl (λw=>stepG_seq) rfl rfl ?_;refine(nB (E:=E) (N:=14) (X:=λI ds R=>ds=[]/\∃it,FI lb it I/\U.f it=none/\R=U.set it (.mapIter (some m) c #[] c)) ?_ (by simp[bI]) ha).bind ?_
 ·cases k
  all_goals
   simp only[iI,zS,zP,zR,zQ,f82,f181,f222,f220,Option.getD_some,bM,bK];refine aH JV ?_;refine TY (by first|exact ur|exact uu|exact A8|exact zl) rfl vF ?_;intro it hit;simp only[go_sem,seval,aA];exact⟨rfl,it,⟨by simp[up,nG],by simp[up]⟩,hit,rfl⟩
 rintro g R ⟨qg,_,a1,de,⟨rfl,it,hF,hit,rfl⟩,rfl⟩;refine ax.ctl (λw=>stepG_block) rfl rfl ?_;refine ax.ctl (λw=>stepG_loop) rfl rfl ?_
 have yI:X.f it=none:=by
  cases h:X.f it with
  |none=>rfl
  |some o=>rw[C.ext hA _ _ h]at hit;cases hit
 have aE:it≠m:=bh hm yI;refine ai0 k C hold hn fR kI (l.length+1) [] l #[] (X.set it (.mapIter (some m) c #[] c)) _ qg a1 aa (.start l) ?_ (by simpa using C.new hA hit) aT yI (by rw[Hp.aM _ (Ne.symm aE)];exact hm) aE hF de;intro b o hb;by_cases rB:b=it
 ·subst rB;rw[yI]at hb;cases hb
 ·rw[Hp.aM _ rB];exact hb
def aqS:Yields 82 (λe:Int×Value×Nat=>aW e.1) aW 72:=HW .Zd
def aqP:Yields 181 (λe:Int×Value×Nat=>aW e.1) aW 88:=HW .Y5
def aqR:Yields 222 (λe:Int×Value×Nat=>aW e.1) aW 273:=HW .Za
def aqQ:Yields 220 (λe:List UInt8×Value×Nat=>bP e.1) bP 274:=HW .Y9
noncomputable def sf:Code:=f85.body.getD .skip
noncomputable def i85:Array Oper:=bK (bM sf)
noncomputable def si:Code:=dO (dO (aO sf))
noncomputable def TK:Array Oper:=bK (bM si)
noncomputable def xH:Code:=dO (aO (aO si))
noncomputable def TL:Array Oper:=bK (bM xH)
noncomputable def xP:Array Oper:=bK (bM (aO xH))
def Vz:sf=.seq (.region 0 i85 false) (.block 0 (.loop si)):=ah
def Ns:si=.seq (.region 1 TK false) (.seq (.cond (.tmp 8) .skip (.exit 0)) (.block 1 xH)):=ah
def SY:xH=.seq (.region 2 TL false) (.seq (.region 3 xP false) (.cond (.tmp 14) .ret .skip)):=ah
def tD:Frame:={(default:Frame)with fn:=85,kind:=.normal}
def al5:∃ps af,xP[2]? =some {dst:=some 13,op:=.call ⟨.value (.tmp 11),#[.tmp 12],#[77]⟩,type:=4,pos:=ps,after:=af,guard:=none}:=⟨_,_,by simp only[xP,xH,si,sf,f85,Option.getD_some,aO,bM,dO,bK];rfl⟩
variable {lb:Nat}
structure zW (lb it:Nat) (I:av):Prop where
 y:I 0=.func (.yield lb) #[] #[]
 i:I 6=pV it
section
variable {E:Env prog}{lb:Nat}{p:Tmp}{r:Loop}{c:Nat}{m:Nat}{cs:List Frame}
variable {A:Hp->List Value->Hp->Prop}{l:List (List UInt8×Value×Nat)}
def aiZ (C:E2 E lb p r A)(hold:∀e∈l,e.2.2<c)(hn:(l.map (·.2.2)).Nodup){X0:Hp}{xs:List Value}{it:Nat}(fR:xs.length+l.length<=1000000)(kI:∀e∈l,di (e.2.1)=true):∀(n:Nat) (done rem:List (List UInt8×Value×Nat)) (seen:Array Nat) (X U:Hp) (I:av) (a:Act),rem.length<n->Left l done rem seen->X0.le X->
 A X (xs++done.map λe=>e.2.1) U->X.f it=some (.mapIter (some m) c seen c)->X0.f it=none->X.f m=some (aU bP l c)->it≠m->zW lb it I->cM 15 a I []->
 ax E (G (tD.at a (.code si:: .inLoop si:: .inBlock 0::[])) cs) U λg R=>∃e fr,g=G fr cs/\fr.fn=85/\Leaving prog fr R e/\
  (e=.returned (.tuple #[])/\∃X' ks,ks.Perm (l.map λe=>e.2.1)/\X0.le X'/\A X' (xs++ks) R):=by
 intro n
 induction n with
 |zero=>intro _ _ _ _ _ _ _ h;omega
 |succ n ih=>
  intro done rem seen X U I a hlen hL hX hA hit h0 hm aE hF ha;have Kf:=C.ext hA _ _ hit;have vF:=C.ext hA _ _ hm;rw[Ns];refine ax.ctl (λw=>stepG_seq) rfl rfl ?_;refine(nB (E:=E) (N:=15) (X:=λI ds R=>ds=[]/\zW lb it I/\((I 8=.bool true/\∃e∈l,e.2.2∉seen/\R=U.set it (.mapIter (some m) c (seen.push e.2.2) c))\/(I 8=.bool false/\(∀e∈l,e.2.2∈seen)/\R=U))) ?_ (by simp[tD]) ha).bind ?_
  ·simp only[TK,si,sf,f85,Option.getD_some,aO,bM,dO,bK];refine ag ?_;refine Ta hF.i Kf vF hold ?_ ?_
   ·intro e he hs;simp only[go_sem,seval,aA,up];exact⟨rfl,⟨by simp[up,hF.y],by simp[up,hF.i]⟩,.inl ⟨by simp[up],e,he,hs,rfl⟩⟩
   ·intro hs;simp only[go_sem,seval,aA,up];exact⟨rfl,⟨by simp[up,hF.y],by simp[up,hF.i]⟩,.inr ⟨by simp[up],hs,rfl⟩⟩
  rintro g R ⟨qg,_,a1,de,⟨rfl,nT,fC⟩,rfl⟩;refine ax.ctl (λw=>stepG_seq) rfl rfl ?_;rcases fC with⟨h7,e,he,hs,rfl⟩|⟨h7,hs,rfl⟩
  ·refine ax.ctl (λw=>stepG_cond (t:=true) (by rw[de.eval];exact h7)) rfl rfl ?_;refine ax.ctl (λw=>stepG_skip) rfl rfl ?_;refine ax.ctl (λw=>stepG_block) rfl rfl ?_;rw[SY];refine ax.ctl (λw=>stepG_seq) rfl rfl ?_;have yG:=C.upd (o:=.mapIter (some m) c (seen.push e.2.2) c) hA hit;have Db:(U.set it (.mapIter (some m) c (seen.push e.2.2) c)).f it=some (.mapIter (some m) c (seen.push e.2.2) c):=aT;have oW:(U.set it (.mapIter (some m) c (seen.push e.2.2) c)).f m=some (aU bP l c):=by rw[Hp.aM _ (Ne.symm aE)];exact vF
   generalize fF:U.set it (.mapIter (some m) c (seen.push e.2.2) c)=R at yG Db oW;refine(nB (E:=E) (N:=15) (X:=λI ds bY=>ds=[]/\zW lb it I/\I 4=e.2.1/\bY=R) ?_ (by simp[tD]) de).bind ?_
   ·simp only[TL,xH,si,sf,f85,Option.getD_some,aO,bM,dO,bK];refine ag ?_;refine Pk nT.i Db oW hn he ?_;simp only[go_sem,seval,aA,up];exact⟨rfl,⟨by simp[up,nT.y],by simp[up,nT.i]⟩,by simp[up],rfl⟩
   rintro g bY ⟨lW,_,a2,gp,⟨rfl,mJ,h3,rfl⟩,rfl⟩;refine ax.ctl (λw=>stepG_seq) rfl rfl ?_;refine ax.ctl (λw=>stepG_region) rfl rfl ?_;have hr:List.range xP.size=[0,1]++[2,3]:=ah;rw[hr];refine(xX (E:=E) (N:=15) (ops:=xP) (Q:=jX λI ds nL=>ds=[]/\zW lb it I/\I 11=.func (.yield lb) #[] #[]/\I 12=e.2.1/\nL=bY) tD (by simp[tD]) _ cs [2,3] xM [0,1] lW [] bY a2 ?_ gp).bind ?_
   ·simp only[xP,xH,si,sf,f85,Option.getD_some,aO,bM,dO,bK];simp only[List.filterMap_cons,List.filterMap_nil,List.getElem?_toArray,List.getElem?_cons_succ,List.getElem?_cons_zero];simp only[go_sem,seval,aA,up,jX];exact⟨⟨by simp[up,mJ.y],by simp[up,mJ.i]⟩,by simp[mJ.y],by simp[h3]⟩
   rintro g nL ⟨HX,_,a3,sF,⟨rfl,tM,bE,bO,rfl⟩,rfl⟩;obtain⟨ps,af,ho⟩:=al5;refine ax.step rfl (UJ ho rfl (by rw[sF.eval];exact bE) (C.loop yG) C.params) ?_;rintro g dz ⟨rfl,rfl⟩
   have Ki:(xs++done.map λe=>e.2.1).length<1000000:=by have h1:=hL.perm.length_eq;have h2:=List.length_pos_of_mem (hL.mem he hs);simp only[List.length_append,List.length_map]at h1|-;omega
   have hv:a3.eval (.tmp 12)=e.2.1:=by rw[sF.eval];exact bO
   refine(C.round yG _ _ _ Ki (by rw[hv];exact kI e he)).bind ?_;rintro g rZ ⟨rfl,Cx⟩;rw[Frame.finish_at,ho];rw[hv]at Cx;have yK:cM 15 _ _ []:=sF.put (dst:=some 13) an (.bool true);refine(xX (E:=E) (N:=15) (ops:=xP) (Q:=jX λI ds nL=>ds=[]/\zW lb it I/\I 14=.bool false/\nL=rZ) tD (by simp[tD]) _ cs [] xM [3] _ [] rZ _ ?_ yK).bind ?_
   ·simp only[xP,xH,si,sf,f85,Option.getD_some,aO,bM,dO,bK];simp only[List.filterMap_cons,List.filterMap_nil,List.getElem?_toArray,List.getElem?_cons_succ,List.getElem?_cons_zero];simp only[go_sem,seval,aA,up,jX];exact⟨by simp[up,tM.y],by simp[up,tM.i]⟩
   rintro g nL ⟨M9,_,a5,CK,⟨rfl,Jw,l8,rfl⟩,rfl⟩;refine ax.ctl (λw=>stepG_region_end) rfl rfl ?_;refine ax.ctl (λw=>stepG_cond (t:=false) (by rw[CK.eval];exact l8)) rfl rfl ?_;refine ax.ctl (λw=>stepG_skip) rfl rfl ?_;refine ax.ctl (λw=>stepG_inBlock) rfl rfl ?_;refine ax.ctl (λw=>stepG_inLoop) rfl rfl ?_;obtain⟨Bv,aZ,CE⟩:=hL.step hn he hs;rw[<-SY,<-Ns];refine ih (done++[e]) Bv (seen.push e.2.2) (X.set it (.mapIter (some m) c (seen.push e.2.2) c)) nL M9 a5 aa CE ?_ ?_ aT h0 (by rw[Hp.aM _ (Ne.symm aE)];exact hm) aE Jw CK
   ·intro b o hb;by_cases rB:b=it
    ·subst rB;rw[h0]at hb;cases hb
    ·rw[Hp.aM _ rB];exact hX _ _ hb
   ·rw[List.map_append,<-List.append_assoc];exact Cx
  ·refine ax.ctl (λw=>stepG_cond (t:=false) (by rw[de.eval];exact h7)) rfl rfl ?_;refine ax.ctl (λw=>stepG_exit (k':=[]) rfl) rfl rfl ?_;refine ax.ctl (λw=>stepG_end) rfl rfl (ax.here ⟨.returned (.tuple #[]),_,rfl,rfl,⟨rfl,?_,rfl,f85,?_,?_⟩,rfl,X,_,(hL.all hn hs).map _,hX,hA⟩)
   ·exact de.defers
   ·exact func85
   ·show wpS _ (results f85 a1.tmps) _ _ _;rw[wC (fn:=f85) de];simp[By,f85,bl]
end
def aqT:Yields 85 (λe:List UInt8×Value×Nat=>e.2.1) bP 114:=by
 intro E lb p r A C X U xs l c bm m hA dK hm hold hn fR kI cs;have JV:=C.ext hA _ _ dK;have vF:=C.ext hA _ _ hm
 have oT:Frame.enter prog 85 #[.func (.yield lb) #[] #[],pV bm] .normal=tD.at {tmps:=#[.func (.yield lb) #[] #[],pV bm]++Array.replicate 13 undef,defers:=[]} [.code sf]:=by simp[Frame.enter,Frame.at,func85,tD,f85,sf]
 rw[oT,Vz];have ha:=sr #[.func (.yield lb) #[] #[],pV bm] 15 ak;refine ax.ctl (λw=>stepG_seq) rfl rfl ?_;refine(nB (E:=E) (N:=15) (X:=λI ds R=>ds=[]/\∃it,zW lb it I/\U.f it=none/\R=U.set it (.mapIter (some m) c #[] c)) ?_ (by simp[tD]) ha).bind ?_
 ·simp only[i85,sf,f85,Option.getD_some,bM,bK];refine aH JV ?_;refine TY vT rfl vF ?_;intro it hit;simp only[go_sem,seval,aA];exact⟨rfl,it,⟨by simp[up,nG],by simp[up]⟩,hit,rfl⟩
 rintro g R ⟨qg,_,a1,de,⟨rfl,it,hF,hit,rfl⟩,rfl⟩;refine ax.ctl (λw=>stepG_block) rfl rfl ?_;refine ax.ctl (λw=>stepG_loop) rfl rfl ?_
 have yI:X.f it=none:=by
  cases h:X.f it with
  |none=>rfl
  |some o=>rw[C.ext hA _ _ h]at hit;cases hit
 have aE:it≠m:=bh hm yI;refine aiZ C hold hn fR kI (l.length+1) [] l #[] (X.set it (.mapIter (some m) c #[] c)) _ qg a1 aa (.start l) ?_ (by simpa using C.new hA hit) aT yI (by rw[Hp.aM _ (Ne.symm aE)];exact hm) aE hF de;intro b o hb;by_cases rB:b=it
 ·subst rB;rw[yI]at hb;cases hb
 ·rw[Hp.aM _ rB];exact hb
inductive Sl (ety:TypeId) (U:Hp) (xs:List Value):Value->Prop
 |nil:xs=[]->Sl ety U xs (.slice none 0 0)
 |at(a:Nat) (pad:List Value):U.f a=some (.cells (xs++pad).toArray ety (0,0))->Sl ety U xs (.slice (some ⟨a,0,none⟩) xs.length (xs.length+pad.length))
variable {c:Nat}{P:Program}{I:av}{ds:List Deferred}{U:Hp}{dst:Option Tmp}{ty:TypeId}{pos:String}{af:Array Edge}{g:Option (Nat×Bool)}{nx:av->List Deferred->Hp->Prop}{pn:List PanicEntry->Hp->Prop}{E:Env P}{xs:List Value}
def app1{t u:TypeId}{x y:Operand}(el:oC P t)(hz:el.z=1)(hb:el.bytes<=16){z0:Value}(hzero:el.zero= #[z0])(hu:Bj P u=true){v0 w:Value}{bn:Nat}(hv:Sl el.e U xs v0)(hx:ai I x=v0)(hy:ai I y=.slice (some ⟨bn,0,none⟩) 1 1)(cE:U.f bn=some (.cells [w].toArray el.e (0,0)))(hw:di w=true)(fJ:xs.length<=1000000)(h:∀a pad,(U.f a=none\/∃c,v0=.slice (some ⟨a,0,none⟩) xs.length c)->nx (aA I dst (.slice (some ⟨a,0,none⟩) (xs.length+1) (xs.length+1+pad.length))) ds (U.set a (.cells (xs++[w]++pad).toArray el.e (0,0)))):
 aS E ⟨dst,.call ⟨.builtin .append,#[x,y],#[t,u]⟩,ty,pos,af,g⟩ I ds U nx pn:=by
 have hn:s7 (ai I y)=some 1:=by rw[hy];rfl
 have iL:iM U el.z 1 (ai I y)=some #[w]:=by rw[hy,hz];simp[iM,cellsOf,cE]
 have gX:∀n,n<=1000000->(2*(n+1)+192)*el.bytes<=2^48:=by intro n hn;have:(2*(n+1)+192)*el.bytes<=(2*(n+1)+192)*16:=Nat.mul_le_mul_left _ hb;omega
 cases hv with
 |nil h0=>
  subst h0;refine ss el (base:=none) (l:=0) (c:=0) (n:=1) (old:=#[]) (new:=#[w]) hu hx hn rfl iL (gX 0 aa) aa (λhc=>aa) ?_;intro hc b cap eU jP;have:=h b (List.replicate (cap-1) z0) (.inl eU);simp only[List.length_nil,Nat.zero_add,List.length_replicate,List.nil_append]at this;rw[hzero,EX];have e1:1+(cap-1)=cap:=aa;rw[e1]at this
  have e2:(#[]++ #[w]++(List.replicate (cap-(0+1)) z0).toArray:Array Value)=([w]++List.replicate (cap-1) z0).toArray:=by apply Array.ext';simp
  rw[e2];exact this
 |«at»a pad ha=>
  have hold:iM U el.z xs.length (.slice (some ⟨a,0,none⟩) xs.length (xs.length+pad.length))=some xs.toArray:=by
   rw[hz];simp only[iM,cellsOf,ha]
   cases xs with
   |nil=>simp
   |cons x xs=>simp
  refine ss el (base:=some ⟨a,0,none⟩) (l:=xs.length) (c:=xs.length+pad.length) (n:=1) (old:=xs.toArray) (new:=#[w]) hu hx hn hold iL (gX _ fJ) aa ?_ ?_
  ·intro hc;have:=h a (pad.drop 1) (.inr ⟨_,rfl⟩);have e1:xs.length+1+(pad.drop 1).length=xs.length+pad.length:=by simp;omega
   rw[e1]at this;refine⟨_,⟨_,_,ha,rfl,by simp[hz]at hc|-;omega,by simp[hw],rfl⟩,?_⟩
   have e2:((xs++pad).toArray.extract 0 ((⟨a,0,none⟩:Addr).off+xs.length*el.z)++ #[w]++(xs++pad).toArray.extract ((⟨a,0,none⟩:Addr).off+xs.length*el.z+(#[w]:Array Value).size) (xs++pad).toArray.size)=(xs++[w]++pad.drop 1).toArray:=by apply Array.ext';simp[hz,List.drop_append];rw[List.drop_eq_nil_of_le aa,List.nil_append,List.take_of_length_le (by simp;omega)]
   rw[e2];exact this
  ·intro hc b cap eU jP;have:=h b (List.replicate (cap-(xs.length+1)) z0) (.inl eU);have e1:xs.length+1+(List.replicate (cap-(xs.length+1)) z0).length=cap:=by simp;omega
   rw[e1]at this;rw[hzero,EX]
   have e2:(xs.toArray++ #[w]++(List.replicate (cap-(xs.length+1)) z0).toArray:Array Value)=(xs++[w]++List.replicate (cap-(xs.length+1)) z0).toArray:=by apply Array.ext';simp
   rw[e2];exact this
variable {r:Loop}
structure tw (ety jY:TypeId) (bb lb d:Nat) (r:Loop) (X:Hp) (xs:List Value) (U:Hp):Prop where
 ext:X.le U
 nb:X.f bb=none
 nl:X.f lb=none
 nd:X.f d=none
 loop:U.f lb=some (.loop r)
 vn:U.f d=some (.deferred (some []))
 cell:∃v,U.f bb=some (.cells #[v] jY (0,0))/\Sl ety U xs v/\∀a n c,v=.slice (some a) n c->X.f a.block=none
variable {ety:TypeId}{R:Hp}
def Sl.keep{v:Value}(h:Sl ety U xs v)(k:∀a n c,v=.slice (some a) n c->R.f a.block=U.f a.block):Sl ety R xs v:=by
 cases h with
 |nil h=>exact .nil h
 |«at»a pad h=>exact .at a pad (by rw[k _ _ _ rfl];exact h)
variable {bb d:Nat}{X:Hp}{jY:TypeId}{b:Nat}{o:Obj}
def tw.apart(h:tw ety jY bb lb d r X xs U)(hX:X.f b=some o):b≠bb/\b≠lb/\b≠d:=by
 refine⟨?_,?_,?_⟩<;>(intro e;subst e)
 ·rw[h.nb]at hX;cases hX
 ·rw[h.nl]at hX;cases hX
 ·rw[h.nd]at hX;cases hX
def gG(h:X.le U)(b:Nat)(o:Obj):(X.set b o).le (U.set b o):=by
 intro x y hx;by_cases e:x=b
 ·subst e;rw[Hp.bD]at hx|-;exact hx
 ·rw[Hp.aM _ e]at hx|-;exact h _ _ hx
def tw.new(h:tw ety jY bb lb d r X xs U)(hb:U.f b=none):tw ety jY bb lb d r (X.set b o) xs (U.set b o):=by
 obtain⟨v,h1,h2,h3⟩:=h.cell;have n1:bb≠b:=bh h1 hb;have n2:lb≠b:=λe=>by subst e;have:=h.loop;rw[hb]at this;cases this
 have n3:d≠b:=λe=>by subst e;have:=h.vn;rw[hb]at this;cases this
 have n4:∀a n c,v=.slice (some a) n c->a.block≠b:=by
  intro a n c e e2
  cases h2 with
  |nil=>cases e
  |«at»a' pad ha=>cases e;subst e2;rw[hb]at ha;cases ha
 refine⟨gG h.ext _ _,by rw[Hp.aM _ n1];exact h.nb,by rw[Hp.aM _ n2];exact h.nl,by rw[Hp.aM _ n3];exact h.nd,by rw[Hp.aM _ n2];exact h.loop,by rw[Hp.aM _ n3];exact h.vn,
  v,by rw[Hp.aM _ n1];exact h1,h2.keep λa n c e=>Hp.aM _ (n4 a n c e),λa n c e=>by rw[Hp.aM _ (n4 a n c e)];exact h3 a n c e⟩
def tw.upd(h:tw ety jY bb lb d r X xs U){o':Obj}(hb:X.f b=some o'):tw ety jY bb lb d r (X.set b o) xs (U.set b o):=by
 obtain⟨v,h1,h2,h3⟩:=h.cell;obtain⟨n1,n2,n3⟩:=h.apart hb;have n1:=n1.symm;have n2:=n2.symm;have n3:=n3.symm;have n4:∀a n c,v=.slice (some a) n c->a.block≠b:=λa n c e e2=>by have:=h3 a n c e;rw[e2,hb]at this;cases this
 refine⟨gG h.ext _ _,by rw[Hp.aM _ n1];exact h.nb,by rw[Hp.aM _ n2];exact h.nl,by rw[Hp.aM _ n3];exact h.nd,by rw[Hp.aM _ n2];exact h.loop,by rw[Hp.aM _ n3];exact h.vn,
  v,by rw[Hp.aM _ n1];exact h1,h2.keep λa n c e=>Hp.aM _ (n4 a n c e),λa n c e=>by rw[Hp.aM _ (n4 a n c e)];exact h3 a n c e⟩
inductive yp:FuncId->TypeId->TypeId->Prop
 |Y1:yp 133 22 3
 |Y3:yp 136 75 77
 |Zb:yp 239 49 9
noncomputable def rq(fs:FuncId):Func:=(prog.funcs[fs]?).getD default
noncomputable def BS(fs:FuncId):Code:=(rq fs).body.getD .skip
noncomputable def Qv(fs:FuncId):Array Oper:=bK (bM (BS fs))
noncomputable def AG(fs:FuncId):Array Oper:=bK (bM (bM (aO (BS fs))))
noncomputable def Hh(fs:FuncId):Code:=dO (aO (bM (aO (BS fs))))
noncomputable def tS(fs:FuncId):Array Oper:=bK (bM (aO (aO (BS fs))))
def N7:Code->Code| .rangeFunc _ _ a _=>a|c=>c
def Oq:Code->Code| .rangeFunc _ _ _ b=>b|c=>c
noncomputable def yu(fs:FuncId):Array Oper:=bK (N7 (Hh fs))
noncomputable def yw(fs:FuncId):Array Oper:=bK (dO (Oq (Hh fs)))
def bS(fs:FuncId):Frame:={(default:Frame)with fn:=fs,kind:=.normal}
def BN:BS 133=f133.body.getD .skip:=by unfold BS rq;rw[func133];rfl
def BO:BS 136=f136.body.getD .skip:=by unfold BS rq;rw[func136];rfl
def BP:BS 239=f239.body.getD .skip:=by unfold BS rq;rw[func239];rfl
def e22:oC prog 22 where
 e:=3
 z:=1
 zero:=#[.int .i64 0]
 bytes:=8
 hu:=ah
 hi:=⟨t3,.int .i64 0,ah,ah,ah,rfl,ah⟩
def e75:oC prog 75 where
 e:=77
 z:=1
 zero:=#[.pointer none]
 bytes:=8
 hu:=ah
 hi:=⟨t77,.pointer none,ah,ah,ah,rfl,ah⟩
def e49:oC prog 49 where
 e:=9
 z:=1
 zero:=#[.string (B [])]
 bytes:=16
 hu:=ah
 hi:=⟨t9,.string (B []),ah,ah,ah,rfl,ah⟩
section
variable {fs:FuncId}{jY ety:TypeId}(k:yp fs jY ety)
include k
def PL:prog.funcs[fs]? =some (rq fs):=by
 unfold rq
 cases k<;>simp only[func133,func136,func239,Option.getD_some]
def abX:(rq fs).ntmps=13:=by cases k<;>kernel_rfl
def abW:(rq fs).body=some (BS fs):=by cases k<;>kernel_rfl
def yp.ne:jY≠ety:=by cases k<;>decide
def VB:BS fs=.seq (.region 0 (Qv fs) false) (.seq (.seq (.region 1 (AG fs) false) (.block 0 (.rangeFunc (.tmp 6) #[7] (.region 2 (yu fs) false) (.block 1 (.region 3 (yw fs) false))))) (.seq (.region 4 (tS fs) false) .ret)):=by cases k<;>kernel_rfl
end
variable {E:Env prog}{fs:FuncId}
def aad(k:yp fs jY ety){T:Array Value}(hT:T.size=13)(h2:T.getD 2 undef=pV bb):
 E2 E lb 7 {state:=.ready,pending:=none,fn:=fs,tmps:=T,params:=#[7],assign:=.region 2 (yu fs) false,body:=.block 1 (.region 3 (yw fs) false),defers:=d}
  (tw ety jY bb lb d {state:=.ready,pending:=none,fn:=fs,tmps:=T,params:=#[7],assign:=.region 2 (yu fs) false,body:=.block 1 (.region 3 (yw fs) false),defers:=d}):=by
 refine⟨rfl,λh=>h.loop,λh=>h.ext,λh hb=>h.new hb,λh hb=>h.upd hb,?_⟩;intro X xs U h v c cs aZ xu;rw[anA]
 obtain⟨mz,ha,r2,r7⟩:∃mz:av,cM 13 ⟨T.setIfInBounds 7 v,[]⟩ mz []/\mz 2=pV bb/\mz 7=v:=by
  refine⟨λt=>(T.setIfInBounds 7 v).getD t undef,⟨by simp[hT],rfl,λt=>rfl⟩,?_,?_⟩
  ·show(T.setIfInBounds 7 v).getD 2 undef=_;rw[Array.getD_eq_getD_getElem?,Array.getElem?_setIfInBounds_ne an,<-Array.getD_eq_getD_getElem?,h2]
  ·show(T.setIfInBounds 7 v).getD 7 undef=_;rw[Array.getD_eq_getD_getElem?,Array.getElem?_setIfInBounds_self_of_lt (by rw[hT];decide)];rfl
 refine ax.ctl (λw=>UI) rfl rfl ?_;refine(Vf (E:=E) (N:=13) (ops:=yu fs) (X:=λI ds R=>ds=[]/\I 2=pV bb/\I 5=v/\R=U) (by simp[wD]) (by cases k<;>kernel_rfl) _ mz [] U _ ?_ ha).bind ?_
 ·have hr:List.range (yu fs).size=[0]:=by cases k<;>kernel_rfl
  rw[hr]
  cases k
  all_goals
   simp only[yu,Hh,BN,BO,BP,f133,f136,f239,Option.getD_some,aO,bM,dO,bK,N7];simp only[List.filterMap_cons,List.filterMap_nil,List.getElem?_toArray,List.getElem?_cons_zero];simp only[go_sem,seval,aA,up,jX,r2,r7]
 rintro g R ⟨qg,_,a1,de,⟨rfl,oO,kG,rfl⟩,rfl⟩;refine ax.step rfl (aoK h.loop rfl) ?_;rintro g bY ⟨rfl,rfl⟩;refine ax.ctl (λw=>aoE) rfl rfl ?_;refine ax.ctl (λw=>UI) rfl rfl ?_;obtain⟨v0,c1,c2,c3⟩:=h.cell;have Ly:bb≠lb:=λe=>by subst e;have:=h.loop;rw[c1]at this;cases this
 have nbd:bb≠d:=λe=>by subst e;have:=h.vn;rw[c1]at this;cases this
 have Tc:lb≠d:=λe=>by subst e;have:=h.loop;rw[h.vn]at this;cases this
 generalize rN:R.set lb _=fP;have vj:fP.f bb=some (.cells #[v0] jY (0,0)):=by rw[<-rN,Hp.aM _ Ly];exact c1
 have xI:∀a n c,v0=.slice (some a) n c->a.block≠lb/\a.block≠bb/\a.block≠d/\∃cc e z,R.f a.block=some (.cells cc e z):=by
  intro a n c e
  cases c2 with
  |nil=>cases e
  |«at»a' pad dJ=>
   cases e
   refine⟨λe=>?_,λe=>?_,λe=>?_,_,_,_,dJ⟩<;>(have e':=e;simp only at e';subst e')
   ·rw[h.loop]at dJ;cases dJ
   ·rw[c1]at dJ;simp[k.ne]at dJ
   ·rw[h.vn]at dJ;cases dJ
 have Y8:Sl ety fP xs v0:=c2.keep λa n c e=>by rw[<-rN,Hp.aM _ (xI a n c e).1]
 refine(Vf (E:=E) (N:=13) (ops:=yw fs) (X:=λI ds bY=>ds=[]/\∃cU,cU.le bY/\(∃v',cU.f bb=some (.cells #[v'] jY (0,0))/\Sl ety cU (xs++[v]) v'/\∀a n c,v'=.slice (some a) n c->X.f a.block=none)/\(∀b o,b≠bb->(∀a n c,v0=.slice (some a) n c->b≠a.block)->fP.f b=some o->cU.f b=some o)) (by simp[wD]) (by cases k<;>kernel_rfl) _ qg [] fP _ ?_ de).bind ?_
 ·have hr:List.range (yw fs).size=[0,1,2,3,4]:=by cases k<;>kernel_rfl
  rw[hr];have S4:∀bn,fP.f bn=none->bb≠bn:=λbn cE e=>by subst e;rw[vj]at cE;cases cE
  have Y7:∀bn,fP.f bn=none->∀o,(fP.set bn o).f bb=some (.cells #[v0] jY (0,0)):=λbn cE o=>by rw[Hp.aM _ (S4 bn cE)];exact vj
  have Zc:∀bn,fP.f bn=none->∀o,Sl ety (fP.set bn o) xs v0:=λbn cE o=>Y8.keep λa n c e=>by
   refine Hp.aM _ λe2=>?_;have:=xI a n c e;obtain⟨m1,m2,m3,cc,ee,z,m4⟩:=this;have m5:fP.f a.block=R.f a.block:=by rw[<-rN];exact Hp.aM _ m1
   rw[m4,e2,cE]at m5;cases m5
  have lst:∀(bn a:Nat) (pad:List Value) (o1 o2:Obj),a≠bb->Sl ety (((fP.set bn o1).set a (.cells (xs++[v]++pad).toArray ety (0,0))).set bb o2) (xs++[v]) (.slice (some ⟨a,0,none⟩) (xs.length+1) (xs.length+1+pad.length)):=λbn a pad o1 o2 dq=>by have:=Sl.at (ety:=ety) (U:=(((fP.set bn o1).set a (.cells (xs++[v]++pad).toArray ety (0,0))).set bb o2)) (xs:=xs++[v]) a pad (by rw[Hp.aM _ dq];exact Hp.bD _ _);simpa using this
  cases k
  all_goals
   simp only[yw,Hh,BN,BO,BP,f133,f136,f239,Option.getD_some,aO,bM,dO,bK,Oq];simp only[List.filterMap_cons,List.filterMap_nil,List.getElem?_toArray,List.getElem?_cons_succ,List.getElem?_cons_zero];simp only[go_sem,seval,aA,up,oO,kG,vj];have RJ:Value.cells v= #[v]:=OL xu;unfold Value.cells at RJ;simp only[RJ];refine ag ?_;refineλbn cE=>?_;have nbn:=S4 bn cE;have Oy:=Y7 bn cE;have IB:=Zc bn cE;refine ag ?_
   first|refine app1 e22 rfl an rfl ah (IB _) rfl rfl aT xu aa ?_|refine app1 e75 rfl an rfl ah (IB _) rfl rfl aT xu aa ?_|refine app1 e49 rfl an rfl ah (IB _) rfl rfl aT xu aa ?_
   intro a pad pT
   have dq:a≠bb:=by
    rcases pT with pT|⟨c,e⟩
    ·intro e;subst e;rw[Oy]at pT;cases pT
    ·exact(xI _ _ _ e).2.1
   have hXa:X.f a=none:=by
    rcases pT with pT|⟨c,e⟩
    ·cases hx:X.f a with
     |none=>rfl
     |some o=>
      have h1:=h.ext _ _ hx;have h2:a≠lb:=bh hx h.nl
      have h3:a≠bn:=λe=>by subst e;rw[<-rN,Hp.aM _ h2]at cE;rw[cE]at h1;cases h1
      rw[Hp.aM _ h3,<-rN,Hp.aM _ h2,h1]at pT;cases pT
    ·exact c3 _ _ _ e
   have afa:∀b o,b≠bb->(∀a n c,v0=.slice (some a) n c->b≠a.block)->fP.f b=some o->b≠a/\b≠bn:=by
    intro b o h1 h2 h3;have hn:b≠bn:=bh h3 cE;refine⟨λe=>?_,hn⟩;subst e;rcases pT with pT|⟨c,e⟩
    ·rw[Hp.aM _ hn,h3]at pT;cases pT
    ·exact h2 _ _ _ e rfl
   have Y6:=λo o'=>(Hp.aM (U:=fP.set bn o) o' dq.symm).trans (Oy o);simp only[go_sem,seval,aA,up,jX,oO,Y6];refine⟨_,Hp.le_refl _,⟨_,aT,?_,?_⟩,?_⟩
   ·exact lst _ _ _ _ _ dq
   ·intro a' n c e
    cases e
    exact hXa
   ·intro b o h1 h2 h3;obtain⟨k1,k2⟩:=afa b o h1 h2 h3;rw[Hp.aM _ h1,Hp.aM _ k1,Hp.aM _ k2];exact h3
 rintro g bY ⟨lW,_,a2,gp,⟨rfl,cU,hle,j9,Dw⟩,rfl⟩;refine ax.iD (R:=cU) ?_ hle;refine ax.ctl (λw=>aoF) rfl rfl ?_;have Rg:cU.f lb=_:=Dw lb _ (Ne.symm Ly) (λa n c e=>(xI a n c e).1.symm) (by rw[<-rN];exact Hp.bD _ _);have ed:a2.defers=[]:=gp.defers;obtain⟨tm2,d2⟩:=a2;subst ed;refine ax.step rfl (aoM Rg) ?_;rintro g dA ⟨rfl,rfl⟩;refine ax.here ⟨rfl,?_⟩;obtain⟨v',e1,e2,e3⟩:=j9
 have hk:∀b o,X.f b=some o->cU.f b=some o:=by intro b o hb;obtain⟨n1,n2,n3⟩:=h.apart hb;refine Dw b o n1 (λa n c e e2=>by have:=c3 a n c e;rw[<-e2,hb]at this;cases this) ?_;rw[<-rN,Hp.aM _ n2];exact h.ext _ _ hb
 refine⟨?_,h.nb,h.nl,h.nd,aT,?_,v',?_,?_,e3⟩
 ·intro b o hb;rw[Hp.aM _ (h.apart hb).2.1];exact hk b o hb
 ·rw[Hp.aM _ Tc.symm];refine Dw d _ nbd.symm (λa n c e=>(xI a n c e).2.2.1.symm) ?_;rw[<-rN,Hp.aM _ Tc.symm];exact h.vn
 ·rw[Hp.aM _ Ly];exact e1
 ·refine e2.keep λa n c e=>Hp.aM _ λe5=>?_;subst e
  cases e2 with
  |«at»a' pad dJ=>
   have e6:a'=lb:=e5;subst e6;rw[Rg]at dJ;cases dJ
def Iv(k:yp fs jY ety){pick:α×Value×Nat->Value}{tc:TypeId}(hY:Yields f pick key tc)(hg:cq prog f=true){bm m:Nat}{l:List (α×Value×Nat)}(dK:U.f bm=some (.cells #[.map (some m)] tc (0,0)))(hm:U.f m=some (aU key l c))(hold:∀e∈l,e.2.2<c)(hn:(l.map (·.2.2)).Nodup)(fR:l.length<=1000000)(kI:∀e∈l,di (pick e)=true):
 aw E fs #[.slice none 0 0,.func (.func f) #[] #[pV bm]] U λe R=>U.le R/\∃v ks,e=.returned v/\ks.Perm (l.map pick)/\Sl ety R ks v/\∀a n c,v=.slice (some a) n c->U.f a.block=none:=by
 intro cs
 have oT:Frame.enter prog fs #[.slice none 0 0,.func (.func f) #[] #[pV bm]] .normal=(bS fs).at {tmps:=#[.slice none 0 0,.func (.func f) #[] #[pV bm]]++Array.replicate 11 undef,defers:=[]} [.code (BS fs)]:=by simp[Frame.enter,Frame.at,PL k,bS,abX k,abW k]
 rw[oT,VB k];have ha:=sr #[.slice none 0 0,.func (.func f) #[] #[pV bm]] 13 ak;refine ax.ctl (λw=>stepG_seq) rfl rfl ?_;refine(nB (E:=E) (N:=13) (X:=λI ds R=>ds=[]/\∃bb,I 2=pV bb/\I 1=.func (.func f) #[] #[pV bm]/\U.f bb=none/\R=U.set bb (.cells #[.slice none 0 0] jY (0,0))) ?_ (by simp[bS]) ha).bind ?_
 ·cases k
  all_goals
   simp only[Qv,BN,BO,BP,f133,f136,f239,Option.getD_some,bM,bK];refine ag ?_;refineλbb eU=>?_;simp only[go_sem,seval,aA];exact⟨rfl,bb,by simp[up],by simp[up,nG],eU,rfl⟩
 rintro g R ⟨qg,_,a1,de,⟨rfl,bb,h2,h1,eU,rfl⟩,rfl⟩;generalize fF:U.set bb (.cells #[.slice none 0 0] jY (0,0))=R;have JU:R.f bb=some (.cells #[.slice none 0 0] jY (0,0)):=by rw[<-fF];exact Hp.bD _ _
 have R2:∀b o,U.f b=some o->b≠bb/\R.f b=some o:=by intro b o hb;have:b≠bb:=bh hb eU;exact⟨this,by rw[<-fF,Hp.aM _ this];exact hb⟩
 refine ax.ctl (λw=>stepG_seq) rfl rfl ?_;refine ax.ctl (λw=>stepG_seq) rfl rfl ?_;refine(nB (E:=E) (N:=13) (X:=λI ds bY=>ds=[]/\I 2=pV bb/\I 6=.func (.func f) #[] #[pV bm]/\bY=R) ?_ (by simp[bS]) de).bind ?_
 ·cases k
  all_goals
   simp only[AG,BN,BO,BP,f133,f136,f239,Option.getD_some,aO,bM,bK];simp only[go_sem,seval,aA];exact⟨rfl,by simp[up,h2],by simp[up,h1],rfl⟩
 rintro g bY ⟨lW,_,a2,gp,⟨rfl,h2,h6,rfl⟩,rfl⟩;refine ax.ctl (λw=>stepG_block) rfl rfl ?_;refine ax.step rfl (aoR (fid:=f) (cap:=#[pV bm]) (by rw[gp.eval];exact h6) hg rfl) ?_;rintro g gH ⟨d,lb,hd,aE,De,GI,rfl⟩;have hT:a2.tmps.size=13:=gp.size;have hT2:a2.tmps.getD 2 undef=pV bb:=by rw[gp.tmps];exact h2
 have C:=aad k (E:=E) (lb:=lb) (d:=d) hT hT2;have Tb:lb≠bb:=bh De JU;have ndb:d≠bb:=bh hd JU
 have agv:∀b o,U.f b=some o->gH.f b=some o:=by intro b o hb;obtain⟨k1,k2⟩:=R2 b o hb;have k3:b≠d:=bh hd k2;have k4:b≠lb:=bh De k2;rw[GI,Hp.aM _ k4,Hp.aM _ k3];exact k2
 have tV:∀b,bY.f b=none->U.f b=none:=by
  intro b hb
  cases hs:U.f b with
  |none=>rfl
  |some o=>rw[(R2 b o hs).2]at hb;cases hb
 have FF:tw ety jY bb lb d {state:=.ready,pending:=none,fn:=fs,tmps:=a2.tmps,params:=#[7],assign:=.region 2 (yu fs) false,body:=.block 1 (.region 3 (yw fs) false),defers:=d} U [] gH:=by
  refine⟨agv,eU,tV _ De,tV _ hd,?_,?_,.slice none 0 0,?_,.nil rfl,λa n c e=>by cases e⟩
  ·rw[GI];exact Hp.bD _ _
  ·rw[GI,Hp.aM _ aE.symm];exact Hp.bD _ _
  ·rw[GI,Hp.aM _ Tb.symm,Hp.aM _ ndb.symm];exact JU
 have JZ:=hY C FF dK hm hold hn (aV fR) kI;have aa7:(#[.func (.yield lb) #[] #[]]++ #[pV bm]:Array Value)= #[.func (.yield lb) #[] #[],pV bm]:=rfl;rw[aa7];refine aw.run JZ ?_ ?_
 ·rintro v dA ⟨hv,X',ks,hp,xc,hA⟩;rw[List.nil_append]at hA;have fe:((bS fs).at {a2 with defers:={target:=.collected d,args:=#[]}::a2.defers} (.inRangeFunc lb:: .inBlock 0:: .code ((Code.region 4 (tS fs) false).seq Code.ret)::[])).finish v=(bS fs).at {a2 with defers:={target:=.collected d,args:=#[]}::a2.defers} (.endRangeFunc lb:: .inBlock 0:: .code ((Code.region 4 (tS fs) false).seq Code.ret)::[]):=rfl;rw[fe];refine ax.step rfl (aoL hA.loop rfl rfl) ?_;rintro g yd ⟨rfl,rfl⟩;refine ax.ctl (λw=>stepG_inBlock) rfl rfl ?_;refine ax.ctl (λw=>stepG_seq) rfl rfl ?_;obtain⟨v',c1,c2,c3⟩:=hA.cell
  have xI:∀a n c,v'=.slice (some a) n c->a.block≠lb/\a.block≠d:=by
   intro a n c e
   cases c2 with
   |nil=>cases e
   |«at»a' pad dJ=>
    cases e
    refine⟨λe=>?_,λe=>?_⟩<;>(have e':=e;simp only at e';subst e')
    ·rw[hA.loop]at dJ;cases dJ
    ·rw[hA.vn]at dJ;cases dJ
  generalize GJ:dA.set lb _=pA;have AI:pA.f d=some (.deferred (some [])):=by rw[<-GJ,Hp.aM _ aE.symm];exact hA.vn
  have CQ:pA.f bb=some (.cells #[v'] jY (0,0)):=by rw[<-GJ,Hp.aM _ Tb.symm];exact c1
  have hs7:Sl ety pA ks v':=c2.keep λa n c e=>by rw[<-GJ,Hp.aM _ (xI a n c e).1]
  have agw:U.le pA:=by intro b o hb;have h1:=xc b o hb;rw[<-GJ,Hp.aM _ (hA.apart h1).2.1];exact hA.ext _ _ h1
  have CL:cM 13 {a2 with defers:={target:=.collected d,args:=#[]}::a2.defers} lW [{target:=.collected d,args:=#[]}]:=gp.defer _;refine(nB (E:=E) (N:=13) (X:=λI ds bY=>ds=[{target:=.collected d,args:=#[]}]/\I 4=v'/\bY=pA) ?_ (by simp[bS]) CL).bind ?_
  ·cases k
   all_goals
    simp only[tS,BN,BO,BP,f133,f136,f239,Option.getD_some,aO,bM,bK];simp only[go_sem,seval,aA,up,h2,CQ];exact⟨rfl,by simp[up],rfl⟩
  rintro g bY ⟨ρ8,_,a8,oS,⟨rfl,h4,rfl⟩,rfl⟩;refine ax.ctl (g':=G {(bS fs).at a8 [.code .ret]with mode:=.returning} cs) (λw=>?_) rfl rfl ?_
  ·simp[G,stepG,stepG.exec,Frame.at]
  refine ax.step rfl (aoP (d:=d) AI rfl oS.defers) ?_;rintro g uW ⟨rfl,rfl⟩;have nX:∀b o,U.f b=some o->b≠d:=λb o hb e=>by subst e;have:=tV _ hd;rw[this]at hb;cases hb
  refine ax.here ⟨.returned v',_,rfl,rfl,⟨rfl,rfl,rfl,rq fs,PL k,?_⟩,?_,v',ks,rfl,hp,?_,?_⟩
  ·show wpS _ (results (rq fs) a8.tmps) _ _ _;rw[wC (fn:=rq fs) oS];have h0:(rq fs).results= #[.tmp 4]:=by cases k<;>kernel_rfl
   simp[By,h0,bl,h4]
  ·intro b o hb;rw[Hp.aM _ (nX b o hb)];exact agw b o hb
  ·exact hs7.keep λa n c e=>Hp.aM _ (xI a n c e).2
  ·intro a n c e
   cases hs:U.f a.block with
   |none=>rfl
   |some o=>have:=xc _ _ hs;rw[c3 a n c e]at this;cases this
 ·rintro ch dA ⟨hv,_⟩
  cases hv
def KV{i:Int}:aw E 214 #[.int .i64 i] U λe' ae=>e'=.returned (.bool false)/\ae=U:=by refine aX func214 ntmps214 results214 λQ aB al az=>?_;refine ag ?_;refine al aG ao ⟨?_,rfl⟩;simp[up]
def KX{l:List UInt8}:aw E 86 #[.string (B l)] U λe' ae=>e'=.returned (.bool false)/\ae=U:=by refine aX func86 ntmps86 results86 λQ aB al az=>?_;refine ag ?_;refine al aG ao ⟨?_,rfl⟩;simp[up]
def pf{i j:Int}:aw E 168 #[.int .i64 i,.int .i64 j] U λe' ae=>e'=.returned (.bool (decide (i<j)))/\ae=U:=by refine aX func168 ntmps168 results168 λQ aB al az=>?_;refine ag ?_;refine bz KV ?_;refine ag ?_;exact al aG ao ⟨rfl,rfl⟩
variable {i j:List UInt8}
def aiQ:aw E 262 #[.string (B i),.string (B j)] U λe' ae=>e'=.returned (.bool (Op.bytesLess i j))/\ae=U:=by refine aX func262 ntmps262 results262 λQ aB al az=>?_;refine ag ?_;refine bz KX ?_;refine ag ?_;exact al aG ao ⟨rfl,rfl⟩
def aai:aw E 52 #[.string (B i),.string (B j)] U λe' ae=>e'=.returned (.int .i64 (if Op.bytesLess i j then-1 else if i=j then 0 else 1))/\ae=U:=by
 refine aX func52 ntmps52 results52 λQ aB al az=>?_;refine ag ?_;refine bz KX ?_;refine ag ?_;refine bz KX ?_;refine ag ?_
 cases h1:Op.bytesLess i j with
 |true=>
  refine ag ?_;exact al aG ao ⟨by simp[h1,up],rfl⟩
 |false=>
  refine aH h1 ?_;by_cases h2:i=j
  ·subst h2;refine ag ?_;exact al aG ao ⟨by simp[h1,up],rfl⟩
  ·simp only[go_sem,seval,h2,decide_false,Bool.not_false];exact al aG ao ⟨by simp[h1,h2,up],rfl⟩
def Ov(l:List UInt8)(i:Nat):(l.getD i 0).toNat<=255:=by have:=(l.getD i 0).toNat_lt;omega
def YV(l:List UInt8)(i:Nat):IntKind.i64.wrap (0+IntKind.i64.wrap (nP l i))=((l.getD i 0).toNat:Int):=by have h:=Ov l i;unfold nP;have e:=wrap64 (n:=((l.getD i 0).toNat:Int)) aa aa;rw[e,Int.zero_add,e]
def aiF{n:Nat}(hn:n<=255):aw E 172 #[.int .u64 n] U λe' ae=>(∃k:Nat,k<=255/\e'=.returned (.int .i64 k))/\ae=U:=by
 refine aX func172 ntmps172 results172 λQ aB al az=>?_;have c0:¬(4294967296:Int)<=n:=aa;have c1:¬(65536:Int)<=n:=aa;have c2:¬(256:Int)<=n:=aa;refine bR c0 c1 c2 ?_
 have e8:IntKind.u8.wrap (n:Int)=n:=by have:((n:Int) % 256)=n:=aa;simpa[IntKind.wrap,IntKind.bits,IntKind.signed]using this
 rw[e8];refine⟨⟨aa,Int.lt_of_le_of_lt (b:=255) aa kE⟩,?_⟩;refine ag ?_;exact al aG ao ⟨⟨_,Ov _ _,congrArg (λx=>Fin.returned (.int .i64 x)) (YV _ _)⟩,rfl⟩
def Ss{n:Nat}(hn:n<=255):aw E 135 #[.int .u64 n] U λe' ae=>(∃k:Nat,k<=255/\e'=.returned (.int .i64 k))/\ae=U:=by
 refine aX func135 ntmps135 results135 λQ aB al az=>?_;refine ag ?_;refine aJ (aiF hn) ?_;rintro v ae ⟨⟨k,hk,hv⟩,rfl⟩
 cases hv
 refine ag ?_;exact al aG ao ⟨⟨k,hk,rfl⟩,rfl⟩
end Go.Qw
