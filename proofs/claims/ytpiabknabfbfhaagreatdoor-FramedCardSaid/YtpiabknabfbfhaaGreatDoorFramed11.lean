/- 11 -/
import Derived.Test.YtpiabknabfbfhaaGreatDoorFramed10
set_option linter.all false
set_option maxRecDepth 100000
set_option maxHeartbeats 8000000
namespace Go.Qw
open Go Go.Conc
section
open Go.ConcX
open Go.ConcN (sumTo upd sumTo_upd upd_ne upd_same)
section
attribute [local instance] Jn.Y
variable {P:Program}
def zY(K:Jn P)(mt:Nat)(w w':World):Prop:=(mt<=4->K.Ra w w')/\(mt=5\/mt=10->K.Rb w w')/\(6<=mt->mt<=8->AtRel w w')
def Ih(K:Jn P)(mt ct cd cn:Nat)(rel:Option Nat)(T:Trace)(b:Goroutine)(w:World)(b':Goroutine)(w':World)(es:Array Event):Prop:=
 (∀x,x<K.Low->x≠K.Wg->w'.heap[x]? =w.heap[x]?)/\zY K mt w w'/\∃oJ B8 zB,WJ K oJ (deafBehind cd es) B8 b' w'/\(∀fn pos,jH K.S K.Wg K.j K.Low zB (T++MemOp.ofEvents K.j fn pos es))/\(zB.isSome=decide (2<=oJ))/\
  WW K (if oJ=7/\mt=10 then 5 else mt) oJ w'/\(mt=10->oJ=7->mayWake P b=true)/\(ct<oJ\/(oJ=ct/\B8<cn))/\oJ<=7
variable {K:Jn P}{w w':World}{mt:Nat}
def MB(h1:w'.tape=w.tape)(h2:w'.os=w.os)(h3:w'.output=w.output)(h4:w'.heap.size=w.heap.size)(h5:∀k:Nat,w'.heap[k]? =w.heap[k]?)(h6:6<=mt->mt<=8->AtRel w w'):zY K mt w w':=by
 letI:=K.atz
 have ha:Aside2 K.C K.Wg w w':=⟨h1,h2,h3,h4,λk _ _=>h5 k⟩;have hg:∀{x y:Int},WgAt K.ty K.Wg w x y->WgAt K.ty K.Wg w' x y:=λh=>h.of_block (h5 _);have hf:Full K.C K.vals w->Full K.C K.vals w':=λh=>Jg h (h5 _);refine⟨λ_=>⟨ha,λh=>h.imp hg (λx=>⟨hg x.1,hf x.2⟩),λh=>⟨hg h.1,hf h.2⟩⟩,λ_=>⟨ha,λh=>?_,λh=>⟨hg h.1,hf h.2⟩⟩,h6⟩;rcases h with h|h|h|h
 ·exact .inl (hg h)
 ·exact .inr (.inl (hg h))
 ·exact .inr (.inr (.inl (hg h)))
 ·exact .inr (.inr (.inr ⟨hg h.1,hf h.2⟩))
def EG(w:World):zY K mt w w:=MB rfl rfl rfl rfl (λ_=>rfl) (λ_ _=>atRel_refl w)
def UL(w:World)(d:Nat):zY K mt w (w.at d):=MB rfl rfl rfl rfl (λ_=>rfl) (λ_ _=>⟨d,rfl⟩)
def Fl(w:World)(o:Nat)(v:Value):Aside2 K.C K.Wg w (w.setCell ⟨K.Wg,o,none⟩ v):=
 ⟨rfl,rfl,rfl,by simp[World.setCell],λk _ hk=>by
  simp only[World.setCell,Array.getElem?_modify]
  rw[if_neg (λe=>hk e.symm)]⟩
def LY{g:Nat}{fn:FuncId}{pos:String}:MemOp.ofEvents g fn pos #[]= #[]:=by simp[ofEvents_eq]
variable {ct:Nat}
def M5(h:WW K mt ct w)(e:w'.heap[K.Wg]? =w.heap[K.Wg]?):WW K mt ct w':=by simp only[WW,WgAt,e];exact h
def Vm(h:WW K mt ct w):WW K (if ct=7/\mt=10 then 5 else mt) ct w:=by
 split
 ·rename_i e;obtain⟨rfl,rfl⟩:=e;rcases h with⟨x,_⟩|⟨_,x,_⟩|⟨_,x,_⟩|⟨_,x,_⟩|⟨x,_⟩|⟨x,_⟩<;>omega
 ·exact h
variable {md cd cn:Nat}{b:Goroutine}{gs:Array Goroutine}{T:Trace}{q:Nat->Nat}{rel:Option Nat}
def En{n':Nat}{b':Goroutine}(hB:JB K gs w T q md cd rel)(hw:WW K mt ct w)(hr:rel.isSome=decide (2<=ct))(h7:ct<7)(hj:WJ K ct cd n' b' w)(hn:n'<cn):Ih K mt ct cd cn rel T b w b' w #[]:=
 ⟨λ_ _ _=>rfl,EG w,ct,n',rel,hj,λfn pos=>by rw[LY,Array.append_empty];exact hB.past,hr,Vm hw,λ_ h=>aa,.inr ⟨rfl,hn⟩,aa⟩
def Cl(a:Addr)(ha:a.block=K.Wg)(x:Bool):K.EvJ ⟨.cell a,x,true⟩:=by
 refine⟨λb hb=>?_,?_,?_⟩
 ·cases x<;>simp[MemAct.ofEvent,MemAct.touch?]at hb<;>subst hb<;>exact⟨⟨a,rfl,ha⟩,rfl⟩
 ·cases x<;>(show a.block<K.Low;rw[ha];exact K.hW)
 ·cases x<;>simp[MemAct.ofEvent]
def Pt{m:Mark}(h1:(MemAct.mark m).low K.Low)(h2:∀x,(MemAct.mark m).touch?≠some x)(h3:m≠.release (stA K.Wg)):K.EvJ (mk m):=by refine⟨λb hb=>absurd hb (h2 b),h1,λe=>?_⟩;injection e with e;exact h3 e
def MA(yZ:mt=5\/mt=10)(h:K.Rb w w'):zY K mt w w':=⟨λx=>aa,λ_=>h,λx y=>aa⟩
def WJ.step(h:WJ K ct cd cn b w)(hr:b.status=.running)(hw:WW K mt ct w)(hB:JB K gs w T q md cd rel)(mY:rel.isSome=decide (2<=ct)):
 (∃b' w' es,stepG P false b w=.go b' w' es/\Ih K mt ct cd cn rel T b w b' w' es)\/
  (ct=0/\cd=0/\K.Z w/\∃cQ,K.s.home cQ/\stepG P false b w=.comm cQ K.s.cases true K.s.shape w #[]):=by
 have e0:∀{es:Array Event},(∀e∈es,EvC (λ_=>False) K.B0 e)->es= #[]:=λhe=>Array.eq_empty_iff_forall_not_mem.2 λe hm=>by obtain⟨_,_,x,_⟩:=he e hm;exact x
 cases h with
 |c0 h1 h2 h3=>
  rcases dY.pick h2 hr h3 with⟨cQ,es,k,rfl,qB,eG,bt⟩|⟨n',y',d,es,aZ,oX,eG,bt,lN⟩
  ·right;obtain rfl:=e0 eG;exact⟨rfl,rfl,h3,cQ,qB.2.2.2.2.1,bt⟩
  ·left;obtain rfl:=e0 eG;refine⟨y',_,_,bt,λ_ _ _=>rfl,UL w d,0,n',rel,.c0 oX lN (K.hZ w _ (λ_ _ _=>rfl) h3),λfn pos=>by rw[LY,Array.append_empty];exact hB.past,mY,?_,λ_ h=>aa,.inr ⟨rfl,aZ⟩,aa⟩;rw[if_neg aa];exact M5 hw rfl
 |c1 h1 h2=>
  left;have KA:rel=none:=by cases rel<;>simp_all
  subst KA
  have release:∀{b':Goroutine},stepG P false b w=.go b' w #[mk (.releaseMerge (stA K.Wg))]->(∃m,Goes P false (RCa K.ty K.Wg K.Low) DC0 (AtK1 P K.ty K.Wg K.Low) m b' w)->
   ∃b' w' es,stepG P false b w=.go b' w' es/\Ih K mt 1 0 cn none T b w b' w' es:=by
   intro b' hgo ⟨m,hm⟩;refine⟨b',w,_,hgo,λ_ _ _=>rfl,EG w,2,m,some T.size,.c2 hm,λfn pos=>?_,rfl,?_,λ_ h=>aa,.inl aa,aa⟩
   ·have:=hB.past.release hB.ej K.hW (op:={g:=K.j,fn:=fn,pos:=pos,act:=.mark (.releaseMerge (stA K.Wg))}) rfl rfl;simpa[ofEvents_eq,MemAct.ofEvent,mk]using this
   ·rw[if_neg aa];rcases hw with⟨x,_,y⟩|⟨x,_,y⟩|⟨_,x,_⟩|⟨_,x,_⟩|⟨_,x,_⟩|⟨_,x,_⟩<;>first|omega|skip
    ·exact .inl ⟨x,aa,y⟩
    ·exact .inr (.inl ⟨x,aa,y⟩)
  rcases Goes.cases h1 with hU|⟨n',rfl,gu⟩
  ·obtain⟨_,_,b',hgo,hm⟩:=hU w (RCa.refl w);exact release hgo hm
  ·rcases Goes.cases h2 with hU|⟨asP,rfl,af7⟩
   ·obtain⟨_,_,b',hgo,hm⟩:=hU w (RCa.refl w);exact release hgo hm
   ·obtain⟨b',w',es,hgo,⟨hA,eG⟩,hg⟩:=gu w (RCa.refl w);obtain⟨YZ,aqG,abl,Q7,⟨adt,aeG⟩,aeQ⟩:=af7 w (RCa.refl w);obtain⟨rfl,rfl,rfl⟩:b'=YZ/\w'=aqG/\es=abl:=by rw[hgo]at Q7;injection Q7 with x y z;exact⟨x,y,z⟩
    have lK:∀k:Nat,w'.heap[k]? =w.heap[k]? :=λk=>by
     by_cases e:k=K.C
     ·exact adt.block k (λx=>K.FG (e.symm.trans x))
     ·exact hA.block k e
    have ki:∀e∈es,K.EvJ e/\e.loc≠.mark .disable/\e.loc≠.mark .enable:=λe he=>abp (eG e he) (aeG e he);have hd:deafBehind 0 es=0:=deafBehind_still (λe he=>(ki e he).2) _;refine⟨b',w',es,hgo,λx _ _=>lK x,MB hA.tape hA.os hA.output hA.size lK ?_,1,n',none,by rw[hd];exact .c1 hg aeQ,λfn pos=>?_,rfl,?_,λ_ h=>aa,.inr ⟨rfl,aa⟩,aa⟩
    ·intro h6 h8;rcases hw with⟨x,_,y⟩|⟨x,_,y⟩|⟨_,x,_⟩|⟨_,x,_⟩|⟨_,x,_⟩|⟨_,x,_⟩<;>omega
    ·exact hB.past.appJ zq (wv (X:=λact=>∀b,act.touch?=some b->OfWg K.Wg b.loc/\b.kind=.atomic) λe x=>(ki e x).1.1) (.inl rfl) (wv (X:=λact=>act.low K.Low) λe x=>(ki e x).1.2.1)
      (wv (X:=λact=>act≠.mark (.release (stA K.Wg))) λe x=>(ki e x).1.2.2)
    ·rw[if_neg aa];exact M5 hw (lK _)
 |c2 h1=>
  left;rcases Goes.cases h1 with hU|⟨n',rfl,gu⟩
  ·obtain⟨_,b',hgo,m,hm⟩:=hU w (RCa.refl w);refine⟨b',w,_,hgo,λ_ _ _=>rfl,EG w,3,m,rel,.c3 hm,λfn pos=>?_,mY,?_,λ_ h=>aa,.inl aa,aa⟩
   ·refine hB.past.appMute ?_ ?_ ?_<;>(intro op aR;obtain⟨e,he,rfl⟩:=Conc.mem_ofEvents aR;simp at he;subst he)
    ·rfl
    ·trivial
    ·simp[MemAct.ofEvent,mk]
   ·rw[if_neg aa];rcases hw with⟨x,_,y⟩|⟨x,_,y⟩|⟨_,x,_⟩|⟨_,x,_⟩|⟨_,x,_⟩|⟨_,x,_⟩<;>first|omega|skip
    ·exact .inl ⟨x,aa,y⟩
    ·exact .inr (.inl ⟨x,aa,y⟩)
  ·obtain⟨b',w',es,hgo,⟨rfl,rfl⟩,hg⟩:=gu w (RCa.refl w);exact⟨b',_,_,hgo,En hB hw mY aa (.c2 hg) aa⟩
 |c3 h1=>
  left
  letI:=K.atz
  have bk:∀e∈(#[rd (stA K.Wg),wr (stA K.Wg)]:Array Event),K.EvJ e:=by intro e he;simp at he;rcases he with rfl|rfl<;>exact Cl _ rfl _
  have O8:∀j e,(#[rd (stA K.Wg),wr (stA K.Wg)]:Array Event)[j]? =some e->(MemAct.ofEvent e).touch?=none\/0<deafBehind 1 ((#[rd (stA K.Wg),wr (stA K.Wg)]:Array Event).extract 0 j):=by
   intro j e he
   match j,he with
   |0,_=>exact .inr (by simp[deafBehind])
   |1,_=>exact .inr (by simp[deafBehind,rd])
   |j+2,he=>simp at he
  rcases Goes.cases h1 with hU|⟨n',rfl,gu⟩
  ·obtain⟨_,hl,hm⟩:=hU w (RCa.refl w);rcases hw with⟨x,_,y⟩|⟨x,_,y⟩|⟨_,x,_⟩|⟨_,x,_⟩|⟨_,x,_⟩|⟨_,x,_⟩<;>first|omega|skip
   ·obtain⟨b',hgo,qq,hq⟩:=hl y
    refine⟨b',_,_,hgo,uJ w 0 _,⟨λ_=>⟨Fl w 0 _,λ_=>.inr ⟨y.setSt _,Jg hB.full (uJ w 0 _ _ K.hC K.xa)⟩,λz=>absurd (z.1.unique y).1 an⟩,λz=>aa,λz=>aa⟩,
     7,qq,rel,.c7 hq,λfn pos=>hB.Cf bk O8,by rw[mY];rfl,?_,λz=>aa,.inl aa,aa⟩
    rw[if_neg aa];exact .inr (.inr (.inr (.inr (.inr ⟨.inl x,rfl,y.setSt _⟩))))
   ·obtain⟨b',hgo,m,hg⟩:=hm y;refine⟨b',_,_,hgo,uJ w 0 _,MA x ⟨Fl w 0 _,λ_=>.inr (.inl (y.setSt _)),λz=>absurd (z.1.unique y).1 an⟩,4,m,rel,.c4 hg,λfn pos=>hB.Cf bk O8,by rw[mY];rfl,?_,λ_ z=>aa,.inl aa,aa⟩;rw[if_neg aa];exact .inr (.inr (.inl ⟨x,.inl rfl,y.setSt _⟩))
  ·obtain⟨b',w',es,hgo,⟨rfl,rfl⟩,hg⟩:=gu w (RCa.refl w);exact⟨b',_,_,hgo,En hB hw mY aa (.c3 hg) aa⟩
 |c4 h1=>
  left;rcases Goes.cases h1 with hU|⟨n',rfl,gu⟩
  ·obtain⟨_,b',hgo,m,hm⟩:=hU w (RCd.refl w);refine⟨b',w,_,hgo,λ_ _ _=>rfl,EG w,5,m,rel,.c5 hm,λfn pos=>hB.Cf ?_ ?_,by rw[mY];rfl,?_,λ_ h=>aa,.inl aa,aa⟩
   ·intro e he;simp at he;subst he;exact Cl _ rfl _
   ·intro j e he
    match j,he with
    |0,_=>exact .inr (by simp[deafBehind])
    |j+1,he=>simp at he
   ·rw[if_neg aa];rcases hw with⟨_,x,y⟩|⟨_,x,y⟩|⟨x,_,y⟩|⟨_,x,_⟩|⟨_,x,_⟩|⟨_,x,_⟩<;>first|omega|skip
    exact .inr (.inr (.inl ⟨x,.inr rfl,y⟩))
  ·obtain⟨b',w',es,hgo,⟨rfl,rfl⟩,hg⟩:=gu w (RCd.refl w);exact⟨b',_,_,hgo,En hB hw mY aa (.c4 hg) aa⟩
 |c5 h1=>
  left
  letI:=K.atz
  rcases Goes.cases h1 with hU|⟨n',rfl,gu⟩
  ·obtain⟨_,b',hgo,m,hm⟩:=hU w (RCd.refl w);rcases hw with⟨_,x,y⟩|⟨_,x,y⟩|⟨x,_,y⟩|⟨_,x,_⟩|⟨_,x,_⟩|⟨_,x,_⟩<;>first|omega|skip
   refine⟨b',_,_,hgo,uJ w 0 _,MA x ⟨Fl w 0 _,λ_=>.inr (.inr (.inl (y.setSt _))),λz=>absurd (z.1.unique y).2 an⟩,6,m,rel,.c6 hm,λfn pos=>hB.Cf ?_ ?_,by rw[mY];rfl,?_,λ_ h=>aa,.inl aa,aa⟩
   ·intro e he;simp at he;subst he;exact Cl _ rfl _
   ·intro j e he
    match j,he with
    |0,_=>exact .inr (by simp[deafBehind])
    |j+1,he=>simp at he
   ·rw[if_neg aa];exact .inr (.inr (.inr (.inl ⟨x,rfl,y.setSt _⟩)))
  ·obtain⟨b',w',es,hgo,⟨rfl,rfl⟩,hg⟩:=gu w (RCd.refl w);exact⟨b',_,_,hgo,En hB hw mY aa (.c5 hg) aa⟩
 |c6 h1=>
  left
  letI:=K.atz
  rcases Goes.cases h1 with hU|⟨n',rfl,gu⟩
  ·obtain⟨_,Dk,b',hgo,qq,hq⟩:=hU w (RCd.refl w);rcases hw with⟨_,x,y⟩|⟨_,x,y⟩|⟨_,x,y⟩|⟨x,_,y⟩|⟨_,x,_⟩|⟨_,x,_⟩<;>first|omega|skip
   refine⟨b',_,_,hgo,uJ w 1 _,MA x ⟨Fl w 1 _,λ_=>.inr (.inr (.inr ⟨y.setSm _,Jg hB.full (uJ w 1 _ _ K.hC K.xa)⟩)),λz=>absurd (z.1.unique y).2 an⟩,7,qq,rel,?_,λfn pos=>hB.Cf ?_ ?_,by rw[mY];rfl,?_,λ_ _=>Dk,.inl aa,aa⟩
   ·have:deafBehind 1 (semEvents (smA K.Wg))=1:=by simp[deafBehind,semEvents]
    rw[this];exact .c7 hq
   ·intro e he;simp[semEvents]at he;rcases he with rfl|rfl|rfl|rfl
    ·exact Pt (m:=.disable) trivial (by simp[MemAct.touch?]) ak
    ·exact Cl _ rfl _
    ·exact Cl _ rfl _
    ·exact Pt (m:=.enable) trivial (by simp[MemAct.touch?]) ak
   ·intro j e he
    match j,he with
    |0,he=>simp[semEvents]at he;subst he;exact .inl rfl
    |1,he=>exact .inr (by simp[deafBehind,semEvents])
    |2,he=>exact .inr (by simp[deafBehind,semEvents])
    |3,he=>simp[semEvents]at he;subst he;exact .inl rfl
    |j+4,he=>simp[semEvents]at he
   ·have:(if 7=7/\mt=10 then 5 else mt)=5:=by rcases x with rfl|rfl<;>rfl
    rw[this];exact .inr (.inr (.inr (.inr (.inl ⟨rfl,rfl,y.setSm _⟩))))
  ·obtain⟨b',w',es,hgo,⟨rfl,rfl⟩,hg⟩:=gu w (RCd.refl w);exact⟨b',_,_,hgo,En hB hw mY aa (.c6 hg) aa⟩
 |c7 h1=>
  left
  cases cn with
  |zero=>rw[h1.1]at hr;cases hr
  |succ n=>
   rcases h1 with⟨hf,_⟩|⟨_,b',es,hm,bt,hq⟩
   ·rw[hf]at hr;cases hr
   refine⟨b',w,es,bt w,λ_ _ _=>rfl,EG w,7,n,rel,.c7 hq,λfn pos=>?_,mY,Vm hw,λx _=>?_,.inr ⟨rfl,aa⟩,aa⟩
   ·refine hB.past.appMute ?_ ?_ ?_<;>(intro op aR;obtain⟨e,he,rfl⟩:=Conc.mem_ofEvents aR)
    ·exact touch_mute (hm e he)
    ·exact low_mute (hm e he) _
    ·intro e';have:=hm e he;obtain⟨loc,wr,sy⟩:=e
     cases loc<;>simp_all[Event.mute,MemAct.ofEvent]
   ·subst x;rcases hw with⟨x,_⟩|⟨_,x,_⟩|⟨_,x,_⟩|⟨_,x,_⟩|⟨x,_⟩|⟨x,_⟩<;>omega
end
abbrev Mu:=Nat×Nat×Nat×Nat×Nat
def Sz:Mu->Mu->Prop:=Prod.Lex (·<·) (Prod.Lex (·<·) (Prod.Lex (·<·) (Prod.Lex (·<·) (·<·))))
def ai7:WellFounded Sz:=
 (Prod.lex ⟨_,Nat.lt_wfRel.wf⟩ (Prod.lex ⟨_,Nat.lt_wfRel.wf⟩ (Prod.lex ⟨_,Nat.lt_wfRel.wf⟩ (Prod.lex ⟨_,Nat.lt_wfRel.wf⟩ ⟨_,Nat.lt_wfRel.wf⟩)))).wf
section
attribute [local instance] Jn.Y
variable {P:Program}{K:Jn P}
def HB:∀x y z,K.Ra x y->K.Ra y z->K.Ra x z:=λ_ _ _ h h'=>by letI:=K.atz;exact h.trans h'
def UW:∀x y z,K.Rb x y->K.Rb y z->K.Rb x z:=λ_ _ _ h h'=>by letI:=K.atz;exact h.trans h'
variable {w w':World}{mt md mn:Nat}{a:Goroutine}
def MJ.rely (h:MJ K mt md mn a w)(s:zY K mt w w'):MJ K mt md mn a w':=by
 obtain⟨s1,s2,s3⟩:=s
 cases h with
 |a1 h=>exact .a1 (Goes.rely HB h (s1 aa))
 |a2 h=>exact .a2 (Goes.rely HB h (s1 aa))
 |a3 h=>exact .a3 (Goes.rely HB h (s1 aa))
 |a4 h=>exact .a4 (Goes.rely HB h (s1 aa))
 |a5 h=>exact .a5 (Goes.rely UW h (s2 aa))
 |blk h=>exact .blk (λw₁ r=>h w₁ (UW _ _ _ (s2 aa) r))
 |a6 h=>exact .a6 (Goes.rely atRel_trans h (s3 aa aa))
 |a7 h=>exact .a7 (Goes.rely atRel_trans h (s3 aa aa))
 |a8 h=>exact .a8 (Goes.rely atRel_trans h (s3 aa aa))
def MJ.status(h:MJ K mt md mn a w):(mt≠10/\a.status=.running)\/(mt=10/\a.status=.blocked/\a.offers=none):=by
 letI:=K.atz
 cases h with
 |a1 h=>exact .inl ⟨aa,h.running (λ_ _ x=>x.1) w (RPa.refl w)⟩
 |a2 h=>exact .inl ⟨aa,h.running K.Qf w (RPa.refl w)⟩
 |a3 h=>exact .inl ⟨aa,h.running (λ_ _ x=>x.1) w (RPa.refl w)⟩
 |a4 h=>exact .inl ⟨aa,h.running (λ_ _ x=>x.1) w (RPa.refl w)⟩
 |a5 h=>exact .inl ⟨aa,h.running (λ_ _ x=>x.1) w (RPb.refl w)⟩
 |blk h=>exact .inr ⟨rfl,rfl,(h w (RPb.refl w)).2.1⟩
 |a6 h=>exact .inl ⟨aa,h.running (λ_ _ x=>x.1) w (atRel_refl w)⟩
 |a7 h=>exact .inl ⟨aa,h.running (λ_ _ x=>x.1) w (atRel_refl w)⟩
 |a8 h=>exact .inl ⟨aa,h.running (λ_ _ x=>x.1) w (atRel_refl w)⟩
def MJ.other(h:MJ K mt md mn a w)(g g':Goroutine):∃kA po,MJ K kA md po (woken P g g' w a) w/\((kA=mt)\/(mt=10/\kA=5))/\(mt=10->mayWake P g=true->(g'.status=.running\/g'.status=.finished)->kA=5):=by
 letI:=K.atz
 rcases h.status with⟨aE,hr⟩|⟨rfl,_⟩
 ·exact⟨mt,mn,by rw[woken_of_again (again_of_running (.inl hr) w)];exact h,.inl rfl,λe=>absurd e aE⟩
 ·cases h with
  | @blk a _ h=>
    have hr:=(h w (RPb.refl w)).1;have ho:=(h w (RPb.refl w)).2.1;by_cases hw:(mayWake P g&&g'.status != .blocked&&g'.status != .waiting)=true
    ·refine⟨5,0,?_,.inr ⟨rfl,rfl⟩,λ_ _ _=>rfl⟩
     have e:woken P g g' w {a with status:=.blocked}=a:=by
      unfold woken;rw[if_pos hw];unfold Goroutine.again;simp only[ho];obtain⟨fr,cs,st,dy,of⟩:=a
      cases hr
      cases ho
      rfl
     rw[e];exact .a5 h
    ·refine⟨10,0,?_,.inl rfl,λ_ h1 h2=>?_⟩
     ·have e:woken P g g' w {a with status:=.blocked}={a with status:=.blocked}:=by unfold woken;rw[if_neg hw]
      rw[e];exact .blk h
     ·exfalso;apply hw;rw[h1];rcases h2 with h2|h2<;>rw[h2]<;>rfl
variable {ct:Nat}
def Vn(h:WW K 10 ct w):WW K 5 ct w:=by
 rcases h with⟨x,_⟩|⟨_,x,y⟩|⟨_,x,y⟩|⟨_,x,y⟩|⟨x,_⟩|⟨x,_⟩<;>first|omega|skip
 ·exact .inr (.inl ⟨.inl rfl,x,y⟩)
 ·exact .inr (.inr (.inl ⟨.inl rfl,x,y⟩))
 ·exact .inr (.inr (.inr (.inl ⟨.inl rfl,x,y⟩)))
variable {cd cn:Nat}{b:Goroutine}{gs:Array Goroutine}{q:Nat->Nat}{rel:Option Nat}
def JInv(K:Jn P)(μ:Mu)(m:Machine)(T:Trace):Prop:=
 ∃gs w sl q a b mt md mn ct cd cn rel,m=crowd gs w sl/\gs[0]? =some a/\gs[K.j]? =some b/\MJ K mt md mn a w/\WJ K ct cd cn b w/\JB K gs w T q md cd rel/\WW K mt ct w/\rel.isSome=decide (2<=ct)/\ct<=7/\
  μ=(7-ct,cn,sumTo gs.size q,rk ct mt,mn)
def Nr(K:Jn P)(m:Machine)(T:Trace):Prop:=
 ∃gs w sl q a n,m=crowd gs w sl/\gs[0]? =some a/\Goes P true AtRel (DPj (λ_=>True) K.Wg K.C K.Low) (AtRetJ P K.Wg K.C (λ_=>True) λ_ _=>True) n a w/\Leavers P T gs q/\Past K.S K.Low T
variable {T:Trace}
def JB.leave(h:JB K gs w T q md cd rel){i:Nat}(h1:0<i)(h2:i≠K.j){g:Goroutine}(hg:gs[i]? =some g)(hr:g.status=.running)(bG:Option (Nat×Nat)):
 ∃g' es q',runT P (crowd gs w bG) i=(.next (crowd (mo P gs i g g' w) w bG),MemOp.ofEvents i g.frame.fn g.frame.place es)/\sumTo gs.size q'<sumTo gs.size q/\JB K (mo P gs i g g' w) w (T++MemOp.ofEvents i g.frame.fn g.frame.place es) q' md cd rel:=by
 have hq:=h.gK i g h1 h2 hg;have qE:(i==0)=false:=by simp;omega
 have aZ:i<gs.size:=(Array.getElem?_eq_some_iff.1 hg).1
 cases mW:q i with
 |zero=>rw[mW]at hq;rw[hq.1]at hr;cases hr
 |succ k=>
  rw[mW]at hq;rcases hq with⟨hf,_⟩|⟨_,g',es,hm,lO,bu⟩
  ·rw[hf]at hr;cases hr
  have eH:=runT_crowd_go (P:=P) (sl:=bG) (i:=i) hg (by rw[qE];exact lO w)
  have KF:sumTo gs.size (upd q i k)+(k+1)=sumTo gs.size q+k:=by have:=sumTo_upd q k id aZ;simpa[mW]using this
  have fw:∀k,k≠i->Deaf (T++MemOp.ofEvents i g.frame.fn g.frame.place es) k=Deaf T k:=λk e=>Deaf_other T (λx=>e x.symm) _ zq;refine⟨g',es,upd q i k,eH,aa,by rw[iB];exact h.kZ,λc x c1 c2 hx=>?_,λc hc=>?_,by rw[fw 0 aa];exact h.e0,by rw[fw _ (λe=>h2 e.symm)];exact h.ej,?_,h.full,h.Au⟩
  ·by_cases e:c=i
   ·subst e;rw[rS aZ]at hx;obtain rfl:=Option.some.inj hx;rw[upd_same,Deaf_own];exact bu
   ·obtain⟨z,hz,rfl⟩:=vY e hx;have oY:=h.gK c z c1 c2 hz;rw[woken_quitsD oY,upd_ne q k e,fw c e];exact oY
  ·rw[iB]at hc;rw[fw c aa];exact h.above c hc
  ·refine h.past.appMute ?_ ?_ ?_<;>(intro op aR;obtain⟨e,he,rfl⟩:=Conc.mem_ofEvents aR)
   ·exact touch_mute (hm e he)
   ·exact low_mute (hm e he) _
   ·intro e';have:=hm e he;obtain⟨loc,wr,sy⟩:=e
    cases loc<;>simp_all[Event.mute,MemAct.ofEvent]
def JB.Eh(h:JB K gs w T q md cd rel)(ha:gs[0]? =some a)(hm:MJ K mt md mn a w){c:Nat}{s:Bool}:partners (gs.setIfInBounds K.j ph) c s=[]:=by
 refine partners_nil λi z hz=>?_;rcases getElem?_stand gs K.j i z hz with⟨_,rfl⟩|⟨h1,h2⟩
 ·exact offersAt_ph c s
 ·by_cases e:i=0
  ·subst e;rw[ha]at h2;rw[<-Option.some.inj h2];rcases hm.status with⟨_,x⟩|⟨_,x,y⟩
   ·exact offersAt_of_not_blocked (by rw[x];simp) c s
   ·simp[offersAt,x,y]
  ·refine offersAt_of_not_blocked (λCU=>?_) c s;have:=(h.gK i z aa h1 h2).status;rcases this with y|y<;>rw[CU]at y<;>cases y
def join_step(μ:Mu)(m:Machine)(T:Trace)(h:JInv K μ m T):∃m' ops,stepT P m=(.next m',ops)/\(Nr K m' (T++ops)\/∃uU,Sz uU μ/\JInv K uU m' (T++ops)):=by
 obtain⟨gs,BK,sl,q,a,b,mt,md,mn,ct,cd,cn,rel,rfl,ha,hb,JC,Jt,vu,FK,mY,h7,rfl⟩:=h
 have GO:∀{w:World},WW K mt ct w->KCa K.ty K.Wg w\/4<=ct:=by
  intro w hW;rcases hW with⟨_,_,x⟩|⟨_,_,x⟩|⟨_,x,_⟩|⟨_,x,_⟩|⟨_,x,_⟩|⟨_,x,_⟩
  ·exact .inl (.inl x)
  ·exact .inl (.inr x)
  all_goals exact .inr aa
 have QV:=Jt.status (GO FK);have Km:=JC.status;have hj:=K.hj
 have CP:∀z∈gs,awake z:=by
  intro z hz;obtain⟨i,hi,rfl⟩:=Array.mem_iff_getElem.1 hz;by_cases e:i=0
  ·subst e;have:gs[0]=a:=by simpa[Array.getElem?_eq_getElem hi]using ha
   rw[this];exact awake_of (Km.elim (λx=>.inl x.2) (λx=>.inr (.inl x.2.1)))
  ·by_cases e':i=K.j
   ·have:gs[i]=b:=by subst e';simpa[Array.getElem?_eq_getElem hi]using hb
    rw[this];exact awake_of (QV.elim .inl (λx=>.inr (.inr x.1)))
   ·exact awake_of ((vu.gK i _ aa e' (Array.getElem?_eq_getElem hi)).status.elim .inl λx=>.inr (.inr x))
 have kt:∃(i:Nat) (g:Goroutine),gs[i]? =some g/\g.status=.running:=by
  rcases Km with⟨_,x⟩|⟨rfl,_⟩
  ·exact⟨0,a,ha,x⟩
  ·rcases QV with x|⟨_,rfl⟩
   ·exact⟨_,b,hb,x⟩
   ·rcases FK with⟨x,_⟩|⟨_,x,_⟩|⟨_,x,_⟩|⟨_,x,_⟩|⟨x,_⟩|⟨x,_⟩<;>omega
 obtain⟨i,z,d,bG,hi,hz,bt⟩:=crowd_pick (P:=P) (w:=BK) (sl:=sl) CP kt;have hM:MJ K mt md mn a (BK.at d):=JC.rely (UL BK d);have hC:WJ K ct cd cn b (BK.at d):=Jt.low (λ_ _=>rfl);have hB:=vu.at d;have hW:WW K mt ct (BK.at d):=M5 FK rfl;generalize BK.at d=w at*;clear JC Jt vu FK;have Qa:0<gs.size:=(Array.getElem?_eq_some_iff.1 ha).1;by_cases e0:i=0
 ·
  subst e0;obtain rfl:z=a:=by rw[ha]at hi;exact(Option.some.inj hi).symm
  have aE:mt≠10:=by rcases Km with⟨x,_⟩|⟨_,x,_⟩;exact x;rw[hz]at x;cases x
  rcases hM.step aE hC hW hB.full with⟨a',w',es,hgo,ki,Dg,w7,kA,po,JA,rA,aZ⟩|⟨rfl,rfl,a',hgo,n,hg⟩
  ·have eH:=runT_crowd_go (P:=P) (sl:=bG) (i:=0) hi (show stepG P (0==0) z w=_ from hgo);have jQ:=hC.status (GO hW);refine⟨_,_,bt.trans eH,.inr ⟨(7-ct,cn,sumTo gs.size q,rk ct kA,po),?_,_,w',bG,q,a',b,kA,_,po,ct,cd,cn,rel,rfl,rS Qa _ _,qO aa hb (again_of_running (jQ.elim .inl λx=>.inr x.1) _) _ _,JA,w7,hB.main ki rfl Dg,rA,mY,h7,by rw[iB]⟩⟩;refine .right _ (.right _ (.right _ ?_));rcases aZ with aZ|⟨he,aZ⟩
   ·exact .left _ _ aZ
   ·rw[he];exact .right _ aZ
  ·
   have eH:=runT_crowd_go (P:=P) (sl:=bG) (i:=0) hi (show stepG P (0==0) z w=_ from hgo);obtain⟨r,rfl⟩:∃r,rel=some r:=by cases rel<;>simp_all
   cases hC with
   |c7 hq=>
    have fw:∀i,i≠0->Deaf (T++MemOp.ofEvents 0 z.frame.fn z.frame.place #[mk (.acquire (stA K.Wg))]) i=Deaf T i:=λi hi=>Deaf_other T (λx=>hi x.symm) _ zq;have Pl:MemOp.ofEvents 0 z.frame.fn z.frame.place #[mk (.acquire (stA K.Wg))]= #[{g:=0,fn:=z.frame.fn,pos:=z.frame.place,act:=.mark (.acquire (stA K.Wg))}]:=by simp[ofEvents_eq,MemAct.ofEvent,mk]
    refine⟨_,_,bt.trans eH,.inl ⟨_,w,bG,upd q K.j cn,a',n,rfl,rS Qa _ _,hg,⟨λi x h1 hx=>?_,λi hi=>?_⟩,?_⟩⟩
    ·obtain⟨y,hy,rfl⟩:=vY aa hx;rw[fw i aa];by_cases e:i=K.j
     ·subst e;rw[hb]at hy;obtain rfl:=Option.some.inj hy;rw[woken_quitsD hq,upd_same,hB.ej];exact hq
     ·have qK:=hB.gK i y h1 e hy;rw[woken_quitsD qK,upd_ne q cn e];exact qK
    ·rw[iB]at hi;rw[fw i aa];exact hB.above i hi
    ·rw[Pl];refine dN.toPast (hB.past.acquire hB.e0 aa K.hW rfl rfl) ?_;rw[<-Pl,Deaf_own,hB.e0];rfl
 ·by_cases ej:i=K.j
  ·
   obtain rfl:z=b:=by rw[ej,hb]at hi;exact(Option.some.inj hi).symm
   have qE:(i==0)=false:=by simp;omega
   rcases hC.step hz hW hB mY with⟨b',w',es,hgo,Dg,af8,oJ,B8,zB,w7,hp',afN,rA,hwk,aZ,h7'⟩|⟨rfl,rfl,hZ,cQ,aeT,J0⟩
   ·have eH:=runT_crowd_go (P:=P) (sl:=bG) (i:=i) (by rw[ej];exact hb) (by rw[qE];exact hgo);have JA:=hM.rely af8;obtain⟨kA,po,JD,yZ,Dk⟩:=JA.other z b'
    have hWf:WW K kA oJ w':=by
     rcases yZ with rfl|⟨rfl,rfl⟩
     ·by_cases e:oJ=7/\kA=10
      ·exfalso;obtain⟨rfl,rfl⟩:=e;have hs:=w7.status (.inr aa);have:=Dk rfl (hwk rfl rfl) (hs.imp id (·.1));omega
      ·rw[if_neg e]at rA;exact rA
     ·by_cases e:oJ=7/\10=10
      ·rw[if_pos e]at rA;exact rA
      ·rw[if_neg e]at rA;exact Vn rA
    have Kl:(mo P gs i z b' w')[0]? =some (woken P z b' w' a):=by rw[Array.getElem?_setIfInBounds_ne aa,Array.getElem?_map,ha];rfl
    subst ej;refine⟨_,_,bt.trans eH,.inr ⟨(7-oJ,B8,sumTo gs.size q,rk oJ kA,po),?_,_,w',bG,q,_,b',kA,md,po,oJ,_,B8,zB,rfl,Kl,rS hB.kZ _ _,JD,w7,hB.work rfl Dg (hp' _ _),hWf,afN,h7',by rw[iB]⟩⟩;rcases aZ with aZ|⟨rfl,aZ⟩
    ·exact .left _ _ aa
    ·exact .right _ (.left _ _ aZ)
   ·
    obtain⟨⟨kc,qH⟩,afE⟩:=K.Qn w hZ
    have eV:∀(m:Nat) (c':CommCase),m≠K.kk->K.s.cases[m]? =some c'->NoWays w (gs.setIfInBounds K.j ph) c':=by intro m c' hm cF;obtain⟨h1,c,h2,h3⟩:=afE m c' hm cF;exact LJ h2 h3 (hB.Eh ha hM)
    have QT:=crowd_sel_recv_closed (P:=P) (sl:=bG) hb (by rw[show(K.j==0)=false from by simp;omega];exact J0) K.hk eV qH (hB.Eh ha hM);rw[ej]at bt;have hkw:KCa K.ty K.Wg w:=(GO hW).resolve_right aa;obtain⟨⟨n1,g1⟩,n2,g2⟩:=K.serve cQ w aeT hkw hB.full hB.Au;have KA:rel=none:=by cases rel<;>simp_all
    subst KA;have eo:MemOp.ofEvents K.j z.frame.fn z.frame.place #[]= #[]:=LY;rw[eo]at QT;have Gp:∀op∈(#[]++ #[{g:=K.j,fn:=cQ.frame.fn,pos:=cQ.frame.place,act:=.recvClosed K.c3}]:Trace),op={g:=K.j,fn:=cQ.frame.fn,pos:=cQ.frame.place,act:=.recvClosed K.c3}:=by intro op aR;simpa using aR
    have hd:∀i,Deaf (T++(#[]++ #[{g:=K.j,fn:=cQ.frame.fn,pos:=cQ.frame.place,act:=.recvClosed K.c3}])) i=Deaf T i:=λi=>Deaf_quiet (λop aR d=>by rw[Gp op aR];rfl);refine⟨_,_,bt.trans QT,.inr ⟨(7-1,n1,sumTo gs.size q,rk 1 mt,mn),.left _ _ aa,_,w,bG,q,a,_,mt,md,mn,1,0,n1,none,rfl,by rw[Array.getElem?_setIfInBounds_ne aa];exact ha,Array.getElem?_setIfInBounds_self_of_lt hB.kZ,hM,.c1 g1 g2,?_,?_,rfl,aa,ak⟩⟩
    ·refine⟨by simpa using hB.kZ,λi x h1 h2 hx=>?_,λi hi=>?_,by rw[hd];exact hB.e0,by rw[hd];exact hB.ej,?_,hB.full,hB.Au⟩
     ·rw[Array.getElem?_setIfInBounds_ne (λe=>h2 e.symm)]at hx;rw[hd];exact hB.gK i x h1 h2 hx
     ·rw[hd];exact hB.above i (aV hi)
     ·refine hB.past.appMute ?_ ?_ ?_<;>(intro op aR;rw[Gp op aR])
      ·rfl
      ·exact K.kT
      ·simp
    ·rcases hW with⟨x,_,y⟩|⟨x,_,y⟩|⟨_,x,_⟩|⟨_,x,_⟩|⟨_,x,_⟩|⟨_,x,_⟩<;>first|omega|skip
     ·exact .inl ⟨x,aa,y⟩
     ·exact .inr (.inl ⟨x,aa,y⟩)
  ·
   obtain⟨g',es,q',eH,aZ,oP⟩:=hB.leave aa ej hi hz bG;obtain⟨kA,po,JD,yZ,_⟩:=hM.other z g';have jQ:=hC.status (GO hW)
   have Kl:(mo P gs i z g' w)[0]? =some (woken P z g' w a):=by rw[Array.getElem?_setIfInBounds_ne aa,Array.getElem?_map,ha];rfl
   refine⟨_,_,bt.trans eH,.inr ⟨(7-ct,cn,sumTo gs.size q',rk ct kA,po),.right _ (.right _ (.left _ _ aZ)),_,w,bG,q',_,b,kA,md,po,ct,cd,cn,rel,rfl,Kl,qO (λe=>ej e.symm) hb (again_of_running (jQ.elim .inl λx=>.inr x.1) _) _ _,JD,hC,oP,?_,mY,h7,by rw[iB]⟩⟩;rcases yZ with rfl|⟨rfl,rfl⟩
   ·exact hW
   ·exact Vn hW
def ahO{μ:Mu}{m:Machine}(h:JInv K μ m T):∃N m' T',runNT P N m T=(.next m',T')/\Nr K m' T':=by
 induction μ using ai7.induction generalizing m T with
 |_ μ ih=>
  obtain⟨m',ops,hs,he|⟨uU,aZ,hI⟩⟩:=join_step μ m T h
  ·exact⟨1,m',T++ops,by simp only[runNT,hs],he⟩
  ·obtain⟨N,pg,oD,hr,hd⟩:=ih uU aZ hI;exact⟨N+1,pg,oD,by simp only[runNT,hs];exact hr,hd⟩
end
end
section
open Go.ConcN (sumTo upd sumTo_upd upd_ne upd_same)
variable {P:Program}
structure Duo.Fb (D:Duo P) (h x:Nat) (s:Seat) (g:Goroutine) (U:Hp) (gs:Array Goroutine) (w:World) (T:Trace) (q:Nat->Nat) (J:Nat->Prop) (n:Nat) (y:Goroutine):Prop where
 hg:gs[h]? =some g
 hy:gs[x]? =some y
 aeC:dY P (x==0) D.KW D.Still D.B s n y
 base:D.Base gs w T q
 past:dN D.S D.Still D.Q D.j x w.heap.size (Knows T h) T
 nC:cP J w U
 gV:∀b,D.Hid b->J b
variable {s:Seat}{g:Goroutine}{U:Hp}
def Duo.Fb.picked{D:Duo P}{h x:Nat}(t:D.gf h x)(hs:D.Fits s)(hr:g.status=.running){J:Nat->Prop}:∀(M:Nat) {gs:Array Goroutine} {w:World} {T:Trace} {q:Nat->Nat} {n:Nat} {y:Goroutine} (sl:Option (Nat×Nat)),
 n+sumTo gs.size q=M->D.Fb h x s g U gs w T q J n y->∃N ck w' bG T' q' n' y' dd uQ,runNT P N (crowd gs w sl) T=(.next (crowd ck w' bG),T')/\D.Fb h x s g U ck w' T' q' J n' y'/\stepT P (crowd ck w' bG)=runT P (crowd ck (w'.at dd) uQ) h:=by
 intro M
 induction M using Nat.strongRecOn with
 |_ M ih=>
  intro gs w T q n y sl hM hp;obtain⟨hg,hy,lN,hb,Kw,fE,hJ⟩:=hp;have vO:=dY.status lN;obtain⟨i,z,d,bG,hi,hz,bt⟩:=crowd_pick (P:=P) (w:=w) (sl:=sl) (hb.awake t hg hy (.inl hr) (vO.elim (λa=>.inl a.1) (λa=>.inr (.inl a.1)))) ⟨h,g,hg,hr⟩;by_cases eh:i=h
  ·subst eh;exact⟨0,gs,w,sl,T,q,n,y,d,bG,rfl,⟨hg,hy,lN,hb,Kw,fE,hJ⟩,bt⟩
  ·by_cases ex:i=x
   ·subst ex;obtain rfl:z=y:=by rw[hy]at hi;exact(Option.some.inj hi).symm
    obtain⟨ck,y',n',d',es,eH,aZ,gD,ff,uf,qL,cD,eG⟩:=D.other t hs (sl:=bG) (hb.at d) hg (λd=>again_of_running (.inl hr) _) (λc b=>offersAt_of_not_blocked (by rw[hr];simp) c b) hy hz lN;obtain⟨N,wY,w2,wH,T2,q2,n2,y2,dd,zF,k1,k2,k3⟩:=ih (n'+sumTo ck.size q) (by rw[gD];omega) bG rfl ⟨ff,uf,qL,cD,Kw.other (λ_ x=>x.app _) (λl hl=>(D.apart l hl).2) hb.mF eG,fE.at d',hJ⟩;exact⟨N+1,wY,w2,wH,T2,q2,n2,y2,dd,zF,by simp only[runNT,bt,eH];exact k1,k2,k3⟩
   ·obtain⟨i1,i2⟩:=t.Aq eh ex;obtain⟨g',es,q',eH,hm,aZ,cD⟩:=hb.leave i1 i2 hi hz d bG
    obtain⟨N,wY,w2,wH,T2,q2,n2,y2,dd,zF,k1,k2,k3⟩:=ih (n+sumTo (mo P gs i z g' (w.at d)).size q') (by rw[iB];omega) bG rfl
     ⟨qO (λe=>eh e.symm) hg (again_of_running (.inl hr) _) _ _,qO (λe=>ex e.symm) hy (dY.stays (hb.at d).chans hs lN) _ _,lN,cD,
      Kw.appMute (λ_ x=>x.app _) (λop aR=>by obtain⟨e,he,rfl⟩:=Conc.mem_ofEvents aR;exact touch_mute (hm e he)) (λop aR=>by obtain⟨e,he,rfl⟩:=Conc.mem_ofEvents aR;exact low_mute (hm e he) _),fE.at d,hJ⟩
    exact⟨N+1,wY,w2,wH,T2,q2,n2,y2,dd,zF,by simp only[runNT,bt,eH];exact k1,k2,k3⟩
structure Duo.Closed (D:Duo P) (c3:Nat) (s:Seat) (g:Goroutine) (U:Hp) (gs:Array Goroutine) (w:World) (T:Trace) (q:Nat->Nat) (J:Nat->Prop) (n:Nat) (y:Goroutine):Prop where
 hg:gs[0]? =some g
 hy:gs[D.j]? =some y
 pos:0<n
 aeC:dY P false D.KW D.Still D.B s n y
 kZ:D.j<gs.size
 gK:∀i g,0<i->i≠D.j->gs[i]? =some g->QuitsD P (q i) (Deaf T i) g
 above:∀i,gs.size<=i->Deaf T i=0
 d0:Deaf T 0=0
 dj:Deaf T D.j=0
 k:D.K w
 shut:∃k,w.heap[c3]? =some (.chan 0 #[] true k k false)
 open_:∀c,D.chans c->c≠c3->Open c w
 rp:lF D.W w
 nr:pF D.Q T
 past:dN D.S D.Still D.Q D.j D.j w.heap.size (Knows T 0) T
 nC:cP J w U
 gV:∀b,D.Hid b->J b
 mF:D.B<=w.heap.size
def Duo.shut(D:Duo P)(hs:D.Fits s)(gZ:∀cc∈s.cases,cc.send=none){c3 kk:Nat}{z:Value}(hc:D.chans c3)(hk:s.cases[kk]? =some (rcase c3 z)){g':Goroutine}{m:Machine}{T:Trace}(mL:D.St 0 D.j s g U m T)(hr:g.status=.running)(Dk:mayWake P g=true)(gC:g'.status=.running)(hKs:∀w k,D.K w->D.K (w.setChan c3 0 #[] true k k false))(aK:∀w k,w.heap[c3]? =some (.chan 0 #[] false k k false)->stepG P true g w=.go g' (w.setChan c3 0 #[] true k k false) (closeEvents c3)):
 ∃N gs w sl T' q J n y,runNT P N m T=(.next (crowd gs w sl),T')/\D.Closed c3 s g' U gs w T' q J n y:=by
 have t:D.gf 0 D.j:=.inl ⟨rfl,rfl⟩;have hj:=D.hj;obtain⟨gs,w,sl,q,J,n,y,rfl,e1,e2,e3,e4,e5,e6,e7⟩:=mL;obtain⟨N,gs,w,sl,T',q,n,y,dd,bG,kt,⟨hg,hy,lN,hb,hp,fE,hJ⟩,bt⟩:=Duo.Fb.picked t hs hr _ sl rfl ⟨e1,e2,e3,e4,e5,e6,e7⟩;obtain⟨k,qH⟩:=(hb.at dd).chans c3 hc;have hgo:=aK (w.at dd) k qH;have eH:=runT_crowd_go (P:=P) (sl:=bG) (i:=0) hg (show stepG P (0==0) g (w.at dd)=_ from hgo)
 have QL:∀e∈closeEvents c3,Calm e:=by intro e he;simp[closeEvents]at he;rcases he with rfl|rfl<;>exact⟨⟨ak,ak⟩,ak⟩
 have hcB:c3<w.heap.size:=(Array.getElem?_eq_some_iff.1 (show w.heap[c3]? =_ from qH)).1;have od:((w.at dd).setChan c3 0 #[] true k k false).heap[c3]? =some (.chan 0 #[] true k k false):=heap_setChan_self _ qH _ _ _ _ _ _
 have agl:∃n' y',0<n'/\woken P g g' ((w.at dd).setChan c3 0 #[] true k k false) y=y'/\dY P false D.KW D.Still D.B s n' y':=by
  have Dc:(D.j==0)=false:=by simp;omega
  rw[Dc]at lN;rcases lN with⟨k',rfl,hw⟩|⟨rfl,pL,cQ,rfl,qB⟩
  ·exact⟨_,y,aa,woken_of_again (again_of_running (.inl hw.running) _),.inl ⟨k',rfl,hw⟩⟩
  ·refine⟨1,{parked cQ s.cases s.shape with status:=.running},aa,?_,.inl ⟨0,rfl,cQ,qB.tries _ _⟩⟩;unfold woken;rw[if_pos (by rw[Dk,gC];rfl)];exact again_some_closed hk od
 obtain⟨n',y',Dl,uf,dW⟩:=agl
 have fw:∀i,Deaf (T'++MemOp.ofEvents 0 g.frame.fn g.frame.place (closeEvents c3)) i=Deaf T' i:=by
  intro i;by_cases e:i=0
  ·subst e;rw[Deaf_own];exact deafBehind_still (λe h=>(QL e h).1) _
  ·exact Deaf_other T' (λx=>e x.symm) _ (λop aR=>by obtain⟨e,_,rfl⟩:=Conc.mem_ofEvents aR;rfl)
 refine⟨N+1,mo P gs 0 g g' ((w.at dd).setChan c3 0 #[] true k k false),(w.at dd).setChan c3 0 #[] true k k false,bG,T'++MemOp.ofEvents 0 g.frame.fn g.frame.place (closeEvents c3),q,J,n',y',?_,rS (hb.lt (.inl rfl)) _ _,?_,Dl,dW,
  by rw[iB];exact hb.kZ,λi x h1 h2 hx=>?_,λi hi=>?_,(fw 0).trans hb.d0,(fw _).trans hb.dj,hKs _ _ (hb.at dd).k,⟨k,od⟩,λc cR aE=>?_,(hb.rp.at dd).setChan _ _ _ _ _ _ _,hb.nr.events λe he=>Bh (QL e he).2,?_,(fE.at dd).setChan (hJ c3 (.inr (.inl hc))) _ _ _ _ _ _,hJ,by have:=(hb.at dd).mF;simpa[World.setChan]using this⟩
 ·rw[runNT_add,kt];simp only[runNT,bt,eH]
 ·rw[Array.getElem?_setIfInBounds_ne aa,Array.getElem?_map,hy];simp only[Option.map_some];rw[uf]
 ·obtain⟨v,hv,rfl⟩:=vY aa hx;have hq:=hb.gK i v h1 h2 hv;rw[woken_quitsD hq,fw];exact hq
 ·rw[iB]at hi;rw[fw];exact hb.above i hi
 ·obtain⟨k0,h0⟩:=hb.chans c cR;exact⟨k0,by rw[heap_setChan_ne _ _ _ _ _ _ _ (λe=>aE e.symm)];exact h0⟩
 ·have gD:((w.at dd).setChan c3 0 #[] true k k false).heap.size=w.heap.size:=by simp only[World.setChan,Array.size_setIfInBounds];rfl
  rw[gD];refine hp.appH (λop aR=>by obtain⟨e,_,rfl⟩:=Conc.mem_ofEvents aR;rfl) (λop aR b eU=>?_) (λop aR=>?_)
  ·obtain⟨e,he,rfl⟩:=Conc.mem_ofEvents aR
   have afj:∀a:Addr,b.loc≠.cell a:=by intro a ha;simp[closeEvents]at he;rcases he with rfl|rfl<;>simp[MemAct.ofEvent,MemAct.touch?]at eU;subst eU;cases ha
   have none:¬(D.S b.loc\/D.Still b.loc\/D.Q b.loc):=λx=>by obtain⟨a,ha⟩:=D.cell _ x;exact afj a ha
   exact⟨λx=>absurd (.inl x) none,λx=>absurd (.inr (.inl x)) none,λx=>absurd (.inr (.inr x)) none⟩
  ·obtain⟨e,he,rfl⟩:=Conc.mem_ofEvents aR;simp[closeEvents]at he;rcases he with rfl|rfl<;>exact hcB
end
variable {α:Type}
def RO(P:Program)(A:Addr->Prop):Sem α->Prop
 | .pure _=>True
 | .load m a k=>m=.plain/\A a/\∀v,RO P A (k v)
 | .shape _ k=>∀x,RO P A (k x)
 | .frozen _ k=>∀x,RO P A (k x)
 | .program k=>RO P A (k P)
 | .halt _=>True
 |_=>False
variable {P:Program}{A:Addr->Prop}{β:Type}
def VJ(f:α->Sem β)(hf:∀a,RO P A (f a)):∀(s:Sem α),RO P A s->RO P A (s.bind f):=by
 intro s
 induction s with
 |pure a=>exactλ_=>hf a
 |load m a k ih=>exactλh=>⟨h.1,h.2.1,λv=>ih v (h.2.2 v)⟩
 |shape r k ih=>exactλh x=>ih x (h x)
 |frozen a k ih=>exactλh x=>ih x (h x)
 |program k ih=>exactλh=>ih P h
 |halt h=>exactλ_=>trivial
 |store|new|freeze|getObj|setObj|choose|sys|mark=>exactλh=>h.elim
def yn{s:Sem α}{f:α->Sem β}(h:RO P A s)(hf:∀a,RO P A (f a)):RO P A (s>>=f):=VJ f hf s h
def BT(a:α):RO P A (pure a:Sem α):=trivial
def VK{c:Prop} [Decidable c]{s t:Sem α}(h:RO P A s)(k:RO P A t):RO P A (if c then s else t):=by split;exact h;exact k
variable {H:Halt->Hp->Prop}{U:Hp}
def anw{Q:α->Hp->Prop}:∀(s:Sem α),RO P A s->wpS P s Q H U->∀(w:World) (es:Array Event),(∀b o,U.f b=some o->w.heap[b]? =some o)->
 ∃bW r,s.runT P w es=(r,es++bW)/\(∀e∈bW,∃a:Addr,e=⟨.cell a,false,false⟩/\A a/\(U.f a.block).isSome=true)/\((∃a,r=.ok a w/\Q a U)\/(∃h,r=.halt h w/\H h U)):=by
 intro s
 induction s with
 |pure a=>exactλ_ h w es hs=>⟨#[],.ok a w,by simp[Sem.runT],ak,.inl ⟨a,rfl,h⟩⟩
 |load m a k ih=>
  rintro⟨rfl,hA,hr⟩ ⟨v,hv,h⟩ w es hs;have hS:cP (λ_=>False) w U:=⟨λ{b o} hb=>hs b o hb,λ_ x=>x.elim,λ_ x=>x.elim⟩;have hw:=hS.cell hv;obtain⟨c,e,z,hb,_,_⟩:=Ai hv;obtain⟨bW,r,h1,h2,h3⟩:=ih v (hr v) h w (es.push ⟨.cell a,false,false⟩) hs;refine⟨#[⟨.cell a,false,false⟩]++bW,r,?_,λx hx=>?_,h3⟩
  ·unfold Sem.runT;simp only[hw];rw[show(Mode.plain==Mode.atomic)=false from rfl,h1,push_eq_append,Array.append_assoc]
  ·rcases Array.mem_append.1 hx with hx|hx
   ·simp at hx;subst hx;exact⟨a,rfl,hA,by rw[hb];rfl⟩
   ·exact h2 x hx
 |shape r k ih=>
  rintro hr ⟨hv,h⟩ w es hs;have hS:cP (λ_=>False) w U:=⟨λ{b o} hb=>hs b o hb,λ_ x=>x.elim,λ_ x=>x.elim⟩;obtain⟨o,ho⟩:=Option.isSome_iff_exists.1 hv;unfold Sem.runT;rw[hS.Uw ho];exact ih _ (hr _) h w es hs
 |frozen a k ih=>
  rintro hr ⟨hv,h⟩ w es hs;have hS:cP (λ_=>False) w U:=⟨λ{b o} hb=>hs b o hb,λ_ x=>x.elim,λ_ x=>x.elim⟩;obtain⟨o,ho⟩:=Option.isSome_iff_exists.1 hv;unfold Sem.runT;rw[hS.Jf ho];exact ih _ (hr _) h w es hs
 |program k ih=>exactλhr h w es hs=>ih _ hr h w es hs
 |halt h=>exactλ_ x w es hs=>⟨#[],.halt h w,by simp[Sem.runT],ak,.inr ⟨h,rfl,x⟩⟩
 |store|new|freeze|getObj|setObj|choose|sys|mark=>exactλh=>h.elim
def anu{a:Addr}(h:A a):RO P A (load a):=⟨rfl,h,λ_=>trivial⟩
variable {t:TypeId}
def anv(ht:dD P t=false){a:Addr}(h:A a):RO P A (loadVar t a):=by
 unfold loadVar isAgg;show RO P A (Sem.bind (Sem.bind (match P.underlying t with|some d=>pure d|none=>stuck "no such type") λd=>match d with| .struct _| .array _ _=>pure true|_=>pure false) _);unfold dD at ht;split
 ·rename_i d hd;rw[hd]at ht
  cases d<;>first|(simp at ht;done)|exact anu h
 ·trivial
def BD(P:Program)(op:Op)(I:av):Prop:=
 match op with
 | .move _| .assign _=>True
 | .load t x=>(∃a,ai I x=.pointer (some a))/\dD P t=false
 | .nilCheck x=>(∃a,ai I x=.pointer (some a))\/∃f l c,ai I x=.func (.func f) l c
 | .fieldAddr s x f=>(∃a,ai I x=.pointer (some a))/\(bL P s f).isSome=true
 | .extract _ _=>True
 | .binOp op _ x y _=>∃v,cL op (ai I x) (ai I y)=some v
 |_=>False
variable {op:BinOp}{v:Value}
def anr{x y:Value}(h:cL op x y=some v):RO P A (binOp op t x y):=by
 unfold cL at h
 split at h<;>first
  |(simp[binOp,Op.stringOp,Op.intArith,Op.intCmp,Op.intBits];done)
  |(split at h
    ·rename_i hc
     first
     |(subst hc;simp[binOp,Op.intArith,Op.intCmp,Op.intBits];exact BT _)
     |(obtain⟨rfl,hb⟩:=hc;simp[binOp,Op.intDiv,hb];exact BT _)
     |(simp[binOp,Op.shift,Int.not_lt.2 hc];exact BT _)
     |(have cF:¬(IntKind.i64.max<((_:Nat):Int)):=Int.not_lt.2 hc
       simp only[binOp,Op.stringOp,gt_iff_lt,if_neg cF];exact BT _)
    ·cases h)
  |(simp[binOp,Op.stringOp];exact BT _)
  |cases h
def ans{x y:Operand}{a b:Value}(h:(∀c,a≠.agg c)/\(a=.nilIface->b=.nilIface->(Region.isConst x||Region.isConst y)=true)):RO P A (eqGuard op t x y a b):=by
 unfold eqGuard;refine VK trivial ?_;obtain⟨h1,h2⟩:=h
 cases a<;>cases b<;>first
  |exact trivial
  |exact absurd rfl (h1 _)
  |(have h3:=h2 rfl rfl
    rw[if_pos]
    ·exact trivial
    ·cases x<;>cases y<;>first|rfl|(simp[Region.isConst]at h3))
def anz{d:TypeDesc}{f:TypeDesc->Sem α}(h:P.underlying t=some d)(k:RO P A (f d)):RO P A (underlying t>>=f):=by show RO P A (Sem.bind (match P.underlying t with|some d=>pure d|none=>stuck "no such type") f);rw[h];exact k
def anx{i:TypeInfo}{f:Nat->Sem α}(h:P.info? t=some i)(k:RO P A (f i.size)):RO P A (sizeOf t>>=f):=by show RO P A (Sem.bind (Sem.bind (match P.info? t with|some i=>pure i|none=>stuck "no such type") λi=>pure i.size) f);rw[h];exact k
def Et(op:Op)(I:av)(y:Addr):Prop:=match op with
 | .load _ x=>ai I x=.pointer (some y)
 |_=>False
variable {o:Oper}{I:av}
def ant(h:BD P o.op I):RO P (Et o.op I) (execOp (ai I) o):=by
 unfold execOp
 cases ho:o.op<;>rw[ho]at h<;>first|exact h.elim|skip
 case move x=>trivial
 case assign x=>trivial
 case load t x=>
  obtain⟨⟨a,ha⟩,ht⟩:=h;refine yn ?_ λ_=>trivial;unfold Instr.loadAt;rw[ha];exact anv ht ha
 case fieldAddr s x f=>
  obtain⟨⟨a,ha⟩,hf⟩:=h;refine yn ?_ λ_=>trivial;unfold Instr.fieldAt;unfold bL at hf;split at hf
  ·rename_i fs hu;split at hf
   ·rename_i fd C2;split at hf
    ·rename_i hs;simp only[Bool.and_eq_true,bne_iff_ne,ne_eq]at hs;obtain⟨i,hi⟩:=Option.isSome_iff_exists.1 hs.1;have hz:i.size≠0:=by simpa[cC,hi]using hs.2
     rw[ha];refine anz hu ?_;simp only[C2];refine yn trivial λ_=>?_;refine yn ?_ λ_=>trivial;unfold fieldPlace;refine anx hi ?_;rw[if_neg hz];trivial
    ·cases hf
   ·cases hf
  ·cases hf
 case nilCheck x=>
  rcases h with⟨a,ha⟩|⟨f,l,c,ha⟩<;>simp only[ha]<;>trivial
 case extract x i=>
  refine yn ?_ λ_=>trivial;unfold Instr.extract;split
  ·split<;>trivial
  ·trivial
 case binOp op t x y t2=>
  obtain⟨v,hv⟩:=h;refine yn ?_ λ_=>trivial;have hn:=On hv;exact yn (ans ⟨hn.1,λe=>absurd e hn.2⟩) λ_=>anr hv
def nN:Sem Next->Prop
 | .pure n=>∃v,n=.value v
 | .load _ _ k=>∀v,nN (k v)
 | .store _ _ _ k=>nN k
 | .new _ k=>∀b,nN (k b)
 | .shape _ k=>∀x,nN (k x)
 | .freeze _ _ k=>nN k
 | .frozen _ k=>∀x,nN (k x)
 | .getObj _ k=>∀x,nN (k x)
 | .setObj _ _ k=>nN k
 | .choose _ k=>∀x,nN (k x)
 | .sys _ k=>∀x,nN (k x)
 | .program k=>∀x,nN (k x)
 | .mark _ k=>nN k
 | .halt _=>True
def VG(s:Sem Value):nN (s.bind λv=>.pure (.value v)):=by induction s<;>first|exact⟨_,rfl⟩|trivial|(rename_i ih;exactλx=>ih x)|(rename_i ih;exact ih)
def ak7{V:Value->Hp->Prop}{D:Deferred->Hp->Prop}{C:FuncId->Array Value->Hp->Prop}:∀(s:Sem Next) (U:Hp),nN s->wpS P s (pB V D C) H U->wpS P s (λn U=>∃v,n=.value v/\V v U) H U:=by
 intro s
 induction s with
 |pure a=>rintro U ⟨v,rfl⟩ h;exact⟨v,rfl,h⟩
 |load m a k ih=>exactλU o ⟨v,hv,h⟩=>⟨v,hv,ih v U (o v) h⟩
 |store m a v k ih=>
  intro U o h
  cases v<;>first|exact h.elim|exact⟨h.1,h.2.1,ih _ o h.2.2⟩
 |new x k ih=>exactλU o h b hb=>ih _ _ (o b) (h b hb)
 |shape r k ih=>exactλU o h=>⟨h.1,ih _ _ (o _) h.2⟩
 |freeze a n k ih=>exactλU o h=>⟨h.1,ih _ o h.2⟩
 |frozen a k ih=>exactλU o h=>⟨h.1,ih _ _ (o _) h.2⟩
 |getObj r k ih=>exactλU o ⟨x,ho,hc,h⟩=>⟨x,ho,hc,ih _ _ (o x) h⟩
 |setObj r x k ih=>exactλU o ⟨x',ho,hc,h⟩=>⟨x',ho,hc,ih _ o h⟩
 |choose q k ih=>
  intro U o h;unfold wpS at h|-;split
  ·rename_i hf;rw[if_pos hf]at h;exact ih _ _ (o _) h
  ·rename_i hf;rw[if_neg hf]at h;exactλt=>ih _ _ (o _) (h t)
 |sys c k ih=>exactλU o h=>h.elim
 |program k ih=>exactλU o h=>ih _ _ (o _) h
 |mark m k ih=>exactλU o h=>⟨h.1,ih _ o h.2⟩
 |halt h=>exactλU _ x=>x
def U8:Op->Bool
 | .move _| .assign _| .load .. | .fieldAddr .. | .extract .. | .binOp .. =>true
 |_=>false
def ak6(h:U8 o.op=true\/(∃x,o.op=.nilCheck x/\((∃a,ai I x=.pointer (some a))\/∃f l c,ai I x=.func (.func f) l c))):nN (execOp (ai I) o):=by
 unfold execOp;rcases h with h|⟨x,hx,ha⟩
 ·cases ho:o.op<;>rw[ho]at h<;>first|exact⟨_,rfl⟩|exact VG _|(simp[U8]at h;done)
 ·rw[hx];rcases ha with⟨a,ha⟩|⟨f,l,c,ha⟩<;>simp only[ha]<;>exact⟨_,rfl⟩
def A7:Op->Bool
 | .move _| .assign _| .load .. | .fieldAddr .. | .extract .. | .nilCheck _=>true
 |_=>false
def D2(P:Program):Op->Bool
 | .load t _=> !dD P t
 |_=>true
def aoa{op:Op}(hk:A7 op=true)(hl:D2 P op=true)(h:cT P op I U=some v):BD P op I:=by
 cases op<;>first|(simp[A7]at hk;done)|exact trivial|skip
 case load t x=>
  simp only[cT]at h;split at h
  ·rename_i a ha;exact⟨⟨a,ha⟩,by simpa[D2]using hl⟩
  ·cases h
 case nilCheck x=>
  simp only[cT]at h;split at h
  ·rename_i a ha;exact .inl ⟨a,ha⟩
  ·rename_i f l c ha;exact .inr ⟨f,l,c,ha⟩
  ·cases h
 case fieldAddr s x f=>
  simp only[cT]at h;split at h
  ·rename_i a off ha hf;exact⟨⟨a,ha⟩,by rw[hf];rfl⟩
  ·cases h
def aog(hs:BD P o.op I)(hv:cT P o.op I U=some v)(w:World)(hw:∀b o,U.f b=some o->w.heap[b]? =some o):
 ∃es,(execOp (ai I) o).runT P w #[]=(.ok (.value v) w,es)/\∀e∈es,∃a:Addr,e=⟨.cell a,false,false⟩/\Et o.op I a/\(U.f a.block).isSome=true:=by
 have hV:nN (execOp (ai I) o):=by
  refine ak6 ?_
  cases ho:o.op<;>rw[ho]at hs<;>first|exact hs.elim|exact .inl rfl|skip
  exact .inr ⟨_,rfl,hs⟩
 let E0:Env P:={main:=true,st:=λ_ _ _ _=>False,iD:=λh _=>h,own:=λ_ _ _ _ _ h=>h.elim}
 have h1:aS E0 {o with dst:=some 0} I [] U (λaC cV ae=>aC 0=v/\ae=U) (λ_ _=>False):=Mc (o:={o with dst:=some 0}) hv ⟨by simp[aA,up],rfl⟩;have h2:=rV h1;unfold wpOp at h2;have h3:=ak7 _ U (by exact hV) h2;obtain⟨bW,r,e1,e2,e3⟩:=anw _ (ant hs) h3 w #[] hw;refine⟨bW,?_,e2⟩;rcases e3 with⟨nx,rfl,v',rfl,hn⟩|⟨h,rfl,hh⟩
 ·obtain⟨h4,_⟩:(aA I (some 0) v') 0=v/\U=U:=hn;simp[aA,up]at h4;subst h4;simpa using e1
 ·cases h<;>exact hh.elim
end Go.Qw
