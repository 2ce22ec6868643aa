/- Part 11. -/
import Derived.Test.YtpiabknabfbfhaaGreatDoorFairly10
set_option linter.all false
set_option maxRecDepth 100000
set_option maxHeartbeats 8000000
namespace Go.Qw
open Go Go.Conc
section
open Go.ConcX
open Go.ConcN (sumTo upd sumTo_upd upd_ne upd_same)
section
attribute [local instance] Jn.Y
variable {P:Program}
def zX(K:Jn P)(mt:Nat)(w w':World):Prop:=(mt<=4->K.Ra w w')/\(mt=5\/mt=10->K.Rb w w')/\(6<=mt->mt<=8->AtRel w w')
def Ia(K:Jn P)(mt ct cd cn:Nat)(rel:Option Nat)(T:Trace)(b:Goroutine)(w:World)(b':Goroutine)(w':World)(es:Array Event):Prop:=
 (∀x,x<K.Low->x≠K.Wg->w'.heap[x]? =w.heap[x]?)/\zX K mt w w'/\∃oC B9 zu,WJ K oC (deafBehind cd es) B9 b' w'/\(∀fn pos,jC K.S K.Wg K.j K.Low zu (T++MemOp.ofEvents K.j fn pos es))/\(zu.isSome=decide (2<=oC))/\
  WW K (if oC=7/\mt=10 then 5 else mt) oC w'/\(mt=10->oC=7->mayWake P b=true)/\(ct<oC\/(oC=ct/\B9<cn))/\oC<=7
variable {K:Jn P}{w w':World}{mt:Nat}
def Mt(h1:w'.tape=w.tape)(h2:w'.os=w.os)(h3:w'.output=w.output)(h4:w'.heap.size=w.heap.size)(h5:∀k:Nat,w'.heap[k]? =w.heap[k]?)(h6:6<=mt->mt<=8->AtRel w w'):zX K mt w w':=by
 letI:=K.I
 have ha:Aside2 K.C K.Wg w w':=⟨h1,h2,h3,h4,λk _ _=>h5 k⟩;have hg:∀{x y:Int},WgAt K.ty K.Wg w x y->WgAt K.ty K.Wg w' x y:=λh=>h.of_block (h5 _);have hf:Full K.C K.vals w->Full K.C K.vals w':=λh=>I7 h (h5 _);refine⟨λ_=>⟨ha,λh=>h.imp hg (λx=>⟨hg x.1,hf x.2⟩),λh=>⟨hg h.1,hf h.2⟩⟩,λ_=>⟨ha,λh=>?_,λh=>⟨hg h.1,hf h.2⟩⟩,h6⟩;rcases h with h|h|h|h
 ·exact .inl (hg h)
 ·exact .inr (.inl (hg h))
 ·exact .inr (.inr (.inl (hg h)))
 ·exact .inr (.inr (.inr ⟨hg h.1,hf h.2⟩))
def EA(w:World):zX K mt w w:=Mt rfl rfl rfl rfl (λ_=>rfl) (λ_ _=>atRel_refl w)
def UG(w:World)(d:Nat):zX K mt w (w.at d):=Mt rfl rfl rfl rfl (λ_=>rfl) (λ_ _=>⟨d,rfl⟩)
def Fe(w:World)(o:Nat)(v:Value):Aside2 K.C K.Wg w (w.setCell ⟨K.Wg,o,none⟩ v):=
 ⟨rfl,rfl,rfl,by simp[World.setCell],λk _ hk=>by
  simp only[World.setCell,Array.getElem?_modify]
  rw[if_neg (λe=>hk e.symm)]⟩
def LO{g:Nat}{fn:FuncId}{pos:String}:MemOp.ofEvents g fn pos #[]= #[]:=by simp[ofEvents_eq]
variable {ct:Nat}
def MY(h:WW K mt ct w)(e:w'.heap[K.Wg]? =w.heap[K.Wg]?):WW K mt ct w':=by simp only[WW,WgAt,e];exact h
def Vf(h:WW K mt ct w):WW K (if ct=7/\mt=10 then 5 else mt) ct w:=by
 split
 ·rename_i e;obtain⟨rfl,rfl⟩:=e;rcases h with⟨x,_⟩|⟨_,x,_⟩|⟨_,x,_⟩|⟨_,x,_⟩|⟨x,_⟩|⟨x,_⟩<;>omega
 ·exact h
variable {md cd cn:Nat}{b:Goroutine}{gs:Array Goroutine}{T:Trace}{q:Nat->Nat}{rel:Option Nat}
def Eh{n':Nat}{b':Goroutine}(hB:JB K gs w T q md cd rel)(hw:WW K mt ct w)(hr:rel.isSome=decide (2<=ct))(h7:ct<7)(hj:WJ K ct cd n' b' w)(hn:n'<cn):Ia K mt ct cd cn rel T b w b' w #[]:=
 ⟨λ_ _ _=>rfl,EA w,ct,n',rel,hj,λfn pos=>by rw[LO,Array.append_empty];exact hB.past,hr,Vf hw,λ_ h=>aa,.inr ⟨rfl,hn⟩,aa⟩
def Cm(a:Addr)(ha:a.block=K.Wg)(x:Bool):K.EvJ ⟨.cell a,x,true⟩:=by
 refine⟨λb hb=>?_,?_,?_⟩
 ·cases x<;>simp[MemAct.ofEvent,MemAct.touch?]at hb<;>subst hb<;>exact⟨⟨a,rfl,ha⟩,rfl⟩
 ·cases x<;>(show a.block<K.Low;rw[ha];exact K.hW)
 ·cases x<;>simp[MemAct.ofEvent]
def Pm{m:Mark}(h1:(MemAct.mark m).low K.Low)(h2:∀x,(MemAct.mark m).touch?≠some x)(h3:m≠.release (stA K.Wg)):K.EvJ (mk m):=by refine⟨λb hb=>absurd hb (h2 b),h1,λe=>?_⟩;injection e with e;exact h3 e
def Ms(yW:mt=5\/mt=10)(h:K.Rb w w'):zX K mt w w':=⟨λx=>aa,λ_=>h,λx y=>aa⟩
def WJ.step(h:WJ K ct cd cn b w)(hr:b.status=.running)(hw:WW K mt ct w)(hB:JB K gs w T q md cd rel)(mS:rel.isSome=decide (2<=ct)):
 (∃b' w' es,stepG P false b w=.go b' w' es/\Ia K mt ct cd cn rel T b w b' w' es)\/
  (ct=0/\cd=0/\K.Z w/\∃cO,K.s.home cO/\stepG P false b w=.comm cO K.s.cases true K.s.shape w #[]):=by
 have e0:∀{es:Array Event},(∀e∈es,EvC (λ_=>False) K.B0 e)->es= #[]:=λhe=>Array.eq_empty_iff_forall_not_mem.2 λe hm=>by obtain⟨_,_,x,_⟩:=he e hm;exact x
 cases h with
 |c0 h1 h2 h3=>
  rcases dW.pick h2 hr h3 with⟨cO,es,k,rfl,qu,eF,bw⟩|⟨n',y',d,es,bj,mP,eF,bw,lF⟩
  ·right;obtain rfl:=e0 eF;exact⟨rfl,rfl,h3,cO,qu.2.2.2.2.1,bw⟩
  ·left;obtain rfl:=e0 eF;refine⟨y',_,_,bw,λ_ _ _=>rfl,UG w d,0,n',rel,.c0 mP lF (K.hZ w _ (λ_ _ _=>rfl) h3),λfn pos=>by rw[LO,Array.append_empty];exact hB.past,mS,?_,λ_ h=>aa,.inr ⟨rfl,bj⟩,aa⟩;rw[if_neg aa];exact MY hw rfl
 |c1 h1 h2=>
  left;have Ks:rel=none:=by cases rel<;>simp_all
  subst Ks
  have release:∀{b':Goroutine},stepG P false b w=.go b' w #[mk (.releaseMerge (stA K.Wg))]->(∃m,Goes P false (RCa K.ty K.Wg K.Low) DC0 (AtK1 P K.ty K.Wg K.Low) m b' w)->
   ∃b' w' es,stepG P false b w=.go b' w' es/\Ia K mt 1 0 cn none T b w b' w' es:=by
   intro b' hgo ⟨m,hm⟩;refine⟨b',w,_,hgo,λ_ _ _=>rfl,EA w,2,m,some T.size,.c2 hm,λfn pos=>?_,rfl,?_,λ_ h=>aa,.inl aa,aa⟩
   ·have:=hB.past.release hB.ej K.hW (op:={g:=K.j,fn:=fn,pos:=pos,act:=.mark (.releaseMerge (stA K.Wg))}) rfl rfl;simpa[ofEvents_eq,MemAct.ofEvent,mk]using this
   ·rw[if_neg aa];rcases hw with⟨x,_,y⟩|⟨x,_,y⟩|⟨_,x,_⟩|⟨_,x,_⟩|⟨_,x,_⟩|⟨_,x,_⟩<;>first|omega|skip
    ·exact .inl ⟨x,aa,y⟩
    ·exact .inr (.inl ⟨x,aa,y⟩)
  rcases Goes.cases h1 with gU|⟨n',rfl,gz⟩
  ·obtain⟨_,_,b',hgo,hm⟩:=gU w (RCa.refl w);exact release hgo hm
  ·rcases Goes.cases h2 with gU|⟨ast,rfl,afF⟩
   ·obtain⟨_,_,b',hgo,hm⟩:=gU w (RCa.refl w);exact release hgo hm
   ·obtain⟨b',w',es,hgo,⟨hA,eF⟩,hg⟩:=gz w (RCa.refl w);obtain⟨YB,aqk,aaU,Q4,⟨acV,aeg⟩,aer⟩:=afF w (RCa.refl w);obtain⟨rfl,rfl,rfl⟩:b'=YB/\w'=aqk/\es=aaU:=by rw[hgo]at Q4;injection Q4 with x y z;exact⟨x,y,z⟩
    have lB:∀k:Nat,w'.heap[k]? =w.heap[k]? :=λk=>by
     by_cases e:k=K.C
     ·exact acV.block k (λx=>K.FC (e.symm.trans x))
     ·exact hA.block k e
    have jU:∀e∈es,K.EvJ e/\e.loc≠.mark .disable/\e.loc≠.mark .enable:=λe he=>aaY (eF e he) (aeg e he);have hd:deafBehind 0 es=0:=deafBehind_still (λe he=>(jU e he).2) _;refine⟨b',w',es,hgo,λx _ _=>lB x,Mt hA.tape hA.os hA.output hA.size lB ?_,1,n',none,by rw[hd];exact .c1 hg aer,λfn pos=>?_,rfl,?_,λ_ h=>aa,.inr ⟨rfl,aa⟩,aa⟩
    ·intro h6 h8;rcases hw with⟨x,_,y⟩|⟨x,_,y⟩|⟨_,x,_⟩|⟨_,x,_⟩|⟨_,x,_⟩|⟨_,x,_⟩<;>omega
    ·exact hB.past.appJ zk (vY (X:=λact=>∀b,act.touch?=some b->OfWg K.Wg b.loc/\b.kind=.atomic) λe x=>(jU e x).1.1) (.inl rfl) (vY (X:=λact=>act.low K.Low) λe x=>(jU e x).1.2.1)
      (vY (X:=λact=>act≠.mark (.release (stA K.Wg))) λe x=>(jU e x).1.2.2)
    ·rw[if_neg aa];exact MY hw (lB _)
 |c2 h1=>
  left;rcases Goes.cases h1 with gU|⟨n',rfl,gz⟩
  ·obtain⟨_,b',hgo,m,hm⟩:=gU w (RCa.refl w);refine⟨b',w,_,hgo,λ_ _ _=>rfl,EA w,3,m,rel,.c3 hm,λfn pos=>?_,mS,?_,λ_ h=>aa,.inl aa,aa⟩
   ·refine hB.past.appMute ?_ ?_ ?_<;>(intro op aS;obtain⟨e,he,rfl⟩:=Conc.mem_ofEvents aS;simp at he;subst he)
    ·rfl
    ·trivial
    ·simp[MemAct.ofEvent,mk]
   ·rw[if_neg aa];rcases hw with⟨x,_,y⟩|⟨x,_,y⟩|⟨_,x,_⟩|⟨_,x,_⟩|⟨_,x,_⟩|⟨_,x,_⟩<;>first|omega|skip
    ·exact .inl ⟨x,aa,y⟩
    ·exact .inr (.inl ⟨x,aa,y⟩)
  ·obtain⟨b',w',es,hgo,⟨rfl,rfl⟩,hg⟩:=gz w (RCa.refl w);exact⟨b',_,_,hgo,Eh hB hw mS aa (.c2 hg) aa⟩
 |c3 h1=>
  left
  letI:=K.I
  have bk:∀e∈(#[rd (stA K.Wg),wr (stA K.Wg)]:Array Event),K.EvJ e:=by intro e he;simp at he;rcases he with rfl|rfl<;>exact Cm _ rfl _
  have O0:∀j e,(#[rd (stA K.Wg),wr (stA K.Wg)]:Array Event)[j]? =some e->(MemAct.ofEvent e).touch?=none\/0<deafBehind 1 ((#[rd (stA K.Wg),wr (stA K.Wg)]:Array Event).extract 0 j):=by
   intro j e he
   match j,he with
   |0,_=>exact .inr (by simp[deafBehind])
   |1,_=>exact .inr (by simp[deafBehind,rd])
   |j+2,he=>simp at he
  rcases Goes.cases h1 with gU|⟨n',rfl,gz⟩
  ·obtain⟨_,hl,hm⟩:=gU w (RCa.refl w);rcases hw with⟨x,_,y⟩|⟨x,_,y⟩|⟨_,x,_⟩|⟨_,x,_⟩|⟨_,x,_⟩|⟨_,x,_⟩<;>first|omega|skip
   ·obtain⟨b',hgo,qq,hq⟩:=hl y
    refine⟨b',_,_,hgo,uB w 0 _,⟨λ_=>⟨Fe w 0 _,λ_=>.inr ⟨y.setSt _,I7 hB.full (uB w 0 _ _ K.hC K.wV)⟩,λz=>absurd (z.1.unique y).1 ai⟩,λz=>aa,λz=>aa⟩,
     7,qq,rel,.c7 hq,λfn pos=>hB.Cg bk O0,by rw[mS];rfl,?_,λz=>aa,.inl aa,aa⟩
    rw[if_neg aa];exact .inr (.inr (.inr (.inr (.inr ⟨.inl x,rfl,y.setSt _⟩))))
   ·obtain⟨b',hgo,m,hg⟩:=hm y;refine⟨b',_,_,hgo,uB w 0 _,Ms x ⟨Fe w 0 _,λ_=>.inr (.inl (y.setSt _)),λz=>absurd (z.1.unique y).1 ai⟩,4,m,rel,.c4 hg,λfn pos=>hB.Cg bk O0,by rw[mS];rfl,?_,λ_ z=>aa,.inl aa,aa⟩;rw[if_neg aa];exact .inr (.inr (.inl ⟨x,.inl rfl,y.setSt _⟩))
  ·obtain⟨b',w',es,hgo,⟨rfl,rfl⟩,hg⟩:=gz w (RCa.refl w);exact⟨b',_,_,hgo,Eh hB hw mS aa (.c3 hg) aa⟩
 |c4 h1=>
  left;rcases Goes.cases h1 with gU|⟨n',rfl,gz⟩
  ·obtain⟨_,b',hgo,m,hm⟩:=gU w (RCd.refl w);refine⟨b',w,_,hgo,λ_ _ _=>rfl,EA w,5,m,rel,.c5 hm,λfn pos=>hB.Cg ?_ ?_,by rw[mS];rfl,?_,λ_ h=>aa,.inl aa,aa⟩
   ·intro e he;simp at he;subst he;exact Cm _ rfl _
   ·intro j e he
    match j,he with
    |0,_=>exact .inr (by simp[deafBehind])
    |j+1,he=>simp at he
   ·rw[if_neg aa];rcases hw with⟨_,x,y⟩|⟨_,x,y⟩|⟨x,_,y⟩|⟨_,x,_⟩|⟨_,x,_⟩|⟨_,x,_⟩<;>first|omega|skip
    exact .inr (.inr (.inl ⟨x,.inr rfl,y⟩))
  ·obtain⟨b',w',es,hgo,⟨rfl,rfl⟩,hg⟩:=gz w (RCd.refl w);exact⟨b',_,_,hgo,Eh hB hw mS aa (.c4 hg) aa⟩
 |c5 h1=>
  left
  letI:=K.I
  rcases Goes.cases h1 with gU|⟨n',rfl,gz⟩
  ·obtain⟨_,b',hgo,m,hm⟩:=gU w (RCd.refl w);rcases hw with⟨_,x,y⟩|⟨_,x,y⟩|⟨x,_,y⟩|⟨_,x,_⟩|⟨_,x,_⟩|⟨_,x,_⟩<;>first|omega|skip
   refine⟨b',_,_,hgo,uB w 0 _,Ms x ⟨Fe w 0 _,λ_=>.inr (.inr (.inl (y.setSt _))),λz=>absurd (z.1.unique y).2 ai⟩,6,m,rel,.c6 hm,λfn pos=>hB.Cg ?_ ?_,by rw[mS];rfl,?_,λ_ h=>aa,.inl aa,aa⟩
   ·intro e he;simp at he;subst he;exact Cm _ rfl _
   ·intro j e he
    match j,he with
    |0,_=>exact .inr (by simp[deafBehind])
    |j+1,he=>simp at he
   ·rw[if_neg aa];exact .inr (.inr (.inr (.inl ⟨x,rfl,y.setSt _⟩)))
  ·obtain⟨b',w',es,hgo,⟨rfl,rfl⟩,hg⟩:=gz w (RCd.refl w);exact⟨b',_,_,hgo,Eh hB hw mS aa (.c5 hg) aa⟩
 |c6 h1=>
  left
  letI:=K.I
  rcases Goes.cases h1 with gU|⟨n',rfl,gz⟩
  ·obtain⟨_,De,b',hgo,qq,hq⟩:=gU w (RCd.refl w);rcases hw with⟨_,x,y⟩|⟨_,x,y⟩|⟨_,x,y⟩|⟨x,_,y⟩|⟨_,x,_⟩|⟨_,x,_⟩<;>first|omega|skip
   refine⟨b',_,_,hgo,uB w 1 _,Ms x ⟨Fe w 1 _,λ_=>.inr (.inr (.inr ⟨y.setSm _,I7 hB.full (uB w 1 _ _ K.hC K.wV)⟩)),λz=>absurd (z.1.unique y).2 ai⟩,7,qq,rel,?_,λfn pos=>hB.Cg ?_ ?_,by rw[mS];rfl,?_,λ_ _=>De,.inl aa,aa⟩
   ·have:deafBehind 1 (semEvents (smA K.Wg))=1:=by simp[deafBehind,semEvents]
    rw[this];exact .c7 hq
   ·intro e he;simp[semEvents]at he;rcases he with rfl|rfl|rfl|rfl
    ·exact Pm (m:=.disable) trivial (by simp[MemAct.touch?]) al
    ·exact Cm _ rfl _
    ·exact Cm _ rfl _
    ·exact Pm (m:=.enable) trivial (by simp[MemAct.touch?]) al
   ·intro j e he
    match j,he with
    |0,he=>simp[semEvents]at he;subst he;exact .inl rfl
    |1,he=>exact .inr (by simp[deafBehind,semEvents])
    |2,he=>exact .inr (by simp[deafBehind,semEvents])
    |3,he=>simp[semEvents]at he;subst he;exact .inl rfl
    |j+4,he=>simp[semEvents]at he
   ·have:(if 7=7/\mt=10 then 5 else mt)=5:=by rcases x with rfl|rfl<;>rfl
    rw[this];exact .inr (.inr (.inr (.inr (.inl ⟨rfl,rfl,y.setSm _⟩))))
  ·obtain⟨b',w',es,hgo,⟨rfl,rfl⟩,hg⟩:=gz w (RCd.refl w);exact⟨b',_,_,hgo,Eh hB hw mS aa (.c6 hg) aa⟩
 |c7 h1=>
  left
  cases cn with
  |zero=>rw[h1.1]at hr;cases hr
  |succ n=>
   rcases h1 with⟨hf,_⟩|⟨_,b',es,hm,bw,hq⟩
   ·rw[hf]at hr;cases hr
   refine⟨b',w,es,bw w,λ_ _ _=>rfl,EA w,7,n,rel,.c7 hq,λfn pos=>?_,mS,Vf hw,λx _=>?_,.inr ⟨rfl,aa⟩,aa⟩
   ·refine hB.past.appMute ?_ ?_ ?_<;>(intro op aS;obtain⟨e,he,rfl⟩:=Conc.mem_ofEvents aS)
    ·exact touch_mute (hm e he)
    ·exact low_mute (hm e he) _
    ·intro e';have:=hm e he;obtain⟨loc,wr,sy⟩:=e
     cases loc<;>simp_all[Event.mute,MemAct.ofEvent]
   ·subst x;rcases hw with⟨x,_⟩|⟨_,x,_⟩|⟨_,x,_⟩|⟨_,x,_⟩|⟨x,_⟩|⟨x,_⟩<;>omega
end
abbrev Mu:=Nat×Nat×Nat×Nat×Nat
def Sv:Mu->Mu->Prop:=Prod.Lex (·<·) (Prod.Lex (·<·) (Prod.Lex (·<·) (Prod.Lex (·<·) (·<·))))
def aiO:WellFounded Sv:=
 (Prod.lex ⟨_,Nat.lt_wfRel.wf⟩ (Prod.lex ⟨_,Nat.lt_wfRel.wf⟩ (Prod.lex ⟨_,Nat.lt_wfRel.wf⟩ (Prod.lex ⟨_,Nat.lt_wfRel.wf⟩ ⟨_,Nat.lt_wfRel.wf⟩)))).wf
section
attribute [local instance] Jn.Y
variable {P:Program}{K:Jn P}
def Hz:∀x y z,K.Ra x y->K.Ra y z->K.Ra x z:=λ_ _ _ h h'=>by letI:=K.I;exact h.trans h'
def UQ:∀x y z,K.Rb x y->K.Rb y z->K.Rb x z:=λ_ _ _ h h'=>by letI:=K.I;exact h.trans h'
variable {w w':World}{mt md mn:Nat}{a:Goroutine}
def MJ.rely (h:MJ K mt md mn a w)(s:zX K mt w w'):MJ K mt md mn a w':=by
 obtain⟨s1,s2,s3⟩:=s
 cases h with
 |a1 h=>exact .a1 (Goes.rely Hz h (s1 aa))
 |a2 h=>exact .a2 (Goes.rely Hz h (s1 aa))
 |a3 h=>exact .a3 (Goes.rely Hz h (s1 aa))
 |a4 h=>exact .a4 (Goes.rely Hz h (s1 aa))
 |a5 h=>exact .a5 (Goes.rely UQ h (s2 aa))
 |blk h=>exact .blk (λw₁ r=>h w₁ (UQ _ _ _ (s2 aa) r))
 |a6 h=>exact .a6 (Goes.rely atRel_trans h (s3 aa aa))
 |a7 h=>exact .a7 (Goes.rely atRel_trans h (s3 aa aa))
 |a8 h=>exact .a8 (Goes.rely atRel_trans h (s3 aa aa))
def MJ.status(h:MJ K mt md mn a w):(mt≠10/\a.status=.running)\/(mt=10/\a.status=.blocked/\a.offers=none):=by
 letI:=K.I
 cases h with
 |a1 h=>exact .inl ⟨aa,h.running (λ_ _ x=>x.1) w (RPa.refl w)⟩
 |a2 h=>exact .inl ⟨aa,h.running K.Qa w (RPa.refl w)⟩
 |a3 h=>exact .inl ⟨aa,h.running (λ_ _ x=>x.1) w (RPa.refl w)⟩
 |a4 h=>exact .inl ⟨aa,h.running (λ_ _ x=>x.1) w (RPa.refl w)⟩
 |a5 h=>exact .inl ⟨aa,h.running (λ_ _ x=>x.1) w (RPb.refl w)⟩
 |blk h=>exact .inr ⟨rfl,rfl,(h w (RPb.refl w)).2.1⟩
 |a6 h=>exact .inl ⟨aa,h.running (λ_ _ x=>x.1) w (atRel_refl w)⟩
 |a7 h=>exact .inl ⟨aa,h.running (λ_ _ x=>x.1) w (atRel_refl w)⟩
 |a8 h=>exact .inl ⟨aa,h.running (λ_ _ x=>x.1) w (atRel_refl w)⟩
def MJ.other(h:MJ K mt md mn a w)(g g':Goroutine):∃j0 oV,MJ K j0 md oV (woken P g g' w a) w/\((j0=mt)\/(mt=10/\j0=5))/\(mt=10->mayWake P g=true->(g'.status=.running\/g'.status=.finished)->j0=5):=by
 letI:=K.I
 rcases h.status with⟨aE,hr⟩|⟨rfl,_⟩
 ·exact⟨mt,mn,by rw[woken_of_again (again_of_running (.inl hr) w)];exact h,.inl rfl,λe=>absurd e aE⟩
 ·cases h with
  | @blk a _ h=>
    have hr:=(h w (RPb.refl w)).1;have ho:=(h w (RPb.refl w)).2.1;by_cases hw:(mayWake P g&&g'.status != .blocked&&g'.status != .waiting)=true
    ·refine⟨5,0,?_,.inr ⟨rfl,rfl⟩,λ_ _ _=>rfl⟩
     have e:woken P g g' w {a with status:=.blocked}=a:=by
      unfold woken;rw[if_pos hw];unfold Goroutine.again;simp only[ho];obtain⟨fr,cs,st,dy,of⟩:=a
      cases hr
      cases ho
      rfl
     rw[e];exact .a5 h
    ·refine⟨10,0,?_,.inl rfl,λ_ h1 h2=>?_⟩
     ·have e:woken P g g' w {a with status:=.blocked}={a with status:=.blocked}:=by unfold woken;rw[if_neg hw]
      rw[e];exact .blk h
     ·exfalso;apply hw;rw[h1];rcases h2 with h2|h2<;>rw[h2]<;>rfl
variable {ct:Nat}
def Vg(h:WW K 10 ct w):WW K 5 ct w:=by
 rcases h with⟨x,_⟩|⟨_,x,y⟩|⟨_,x,y⟩|⟨_,x,y⟩|⟨x,_⟩|⟨x,_⟩<;>first|omega|skip
 ·exact .inr (.inl ⟨.inl rfl,x,y⟩)
 ·exact .inr (.inr (.inl ⟨.inl rfl,x,y⟩))
 ·exact .inr (.inr (.inr (.inl ⟨.inl rfl,x,y⟩)))
variable {cd cn:Nat}{b:Goroutine}{gs:Array Goroutine}{q:Nat->Nat}{rel:Option Nat}
def JInv(K:Jn P)(μ:Mu)(m:Machine)(T:Trace):Prop:=
 ∃gs w sl q a b mt md mn ct cd cn rel,m=crowd gs w sl/\gs[0]? =some a/\gs[K.j]? =some b/\MJ K mt md mn a w/\WJ K ct cd cn b w/\JB K gs w T q md cd rel/\WW K mt ct w/\rel.isSome=decide (2<=ct)/\ct<=7/\
  μ=(7-ct,cn,sumTo gs.size q,rk ct mt,mn)
def Nn(K:Jn P)(m:Machine)(T:Trace):Prop:=
 ∃gs w sl q a n,m=crowd gs w sl/\gs[0]? =some a/\Goes P true AtRel (DPj (λ_=>True) K.Wg K.C K.Low) (AtRetJ P K.Wg K.C (λ_=>True) λ_ _=>True) n a w/\Leavers P T gs q/\Past K.S K.Low T
variable {T:Trace}
def JB.leave(h:JB K gs w T q md cd rel){i:Nat}(h1:0<i)(h2:i≠K.j){g:Goroutine}(hg:gs[i]? =some g)(hr:g.status=.running)(bE:Option (Nat×Nat)):
 ∃g' es q',runT P (crowd gs w bE) i=(.next (crowd (mh P gs i g g' w) w bE),MemOp.ofEvents i g.frame.fn g.frame.place es)/\sumTo gs.size q'<sumTo gs.size q/\JB K (mh P gs i g g' w) w (T++MemOp.ofEvents i g.frame.fn g.frame.place es) q' md cd rel:=by
 have hq:=h.gI i g h1 h2 hg;have qA:(i==0)=false:=by simp;omega
 have bj:i<gs.size:=(Array.getElem?_eq_some_iff.1 hg).1
 cases mQ:q i with
 |zero=>rw[mQ]at hq;rw[hq.1]at hr;cases hr
 |succ k=>
  rw[mQ]at hq;rcases hq with⟨hf,_⟩|⟨_,g',es,hm,lG,bz⟩
  ·rw[hf]at hr;cases hr
  have eG:=runT_crowd_go (P:=P) (sl:=bE) (i:=i) hg (by rw[qA];exact lG w)
  have Kx:sumTo gs.size (upd q i k)+(k+1)=sumTo gs.size q+k:=by have:=sumTo_upd q k id bj;simpa[mQ]using this
  have fp:∀k,k≠i->Deaf (T++MemOp.ofEvents i g.frame.fn g.frame.place es) k=Deaf T k:=λk e=>Deaf_other T (λx=>e x.symm) _ zk;refine⟨g',es,upd q i k,eG,aa,by rw[iz];exact h.kR,λc x c1 c2 hx=>?_,λc hc=>?_,by rw[fp 0 aa];exact h.e0,by rw[fp _ (λe=>h2 e.symm)];exact h.ej,?_,h.full,h.Au⟩
  ·by_cases e:c=i
   ·subst e;rw[rI bj]at hx;obtain rfl:=Option.some.inj hx;rw[upd_same,Deaf_own];exact bz
   ·obtain⟨z,hz,rfl⟩:=vT e hx;have oN:=h.gI c z c1 c2 hz;rw[woken_quitsD oN,upd_ne q k e,fp c e];exact oN
  ·rw[iz]at hc;rw[fp c aa];exact h.above c hc
  ·refine h.past.appMute ?_ ?_ ?_<;>(intro op aS;obtain⟨e,he,rfl⟩:=Conc.mem_ofEvents aS)
   ·exact touch_mute (hm e he)
   ·exact low_mute (hm e he) _
   ·intro e';have:=hm e he;obtain⟨loc,wr,sy⟩:=e
    cases loc<;>simp_all[Event.mute,MemAct.ofEvent]
def JB.Eb(h:JB K gs w T q md cd rel)(ha:gs[0]? =some a)(hm:MJ K mt md mn a w){c:Nat}{s:Bool}:partners (gs.setIfInBounds K.j ph) c s=[]:=by
 refine partners_nil λi z hz=>?_;rcases getElem?_stand gs K.j i z hz with⟨_,rfl⟩|⟨h1,h2⟩
 ·exact offersAt_ph c s
 ·by_cases e:i=0
  ·subst e;rw[ha]at h2;rw[<-Option.some.inj h2];rcases hm.status with⟨_,x⟩|⟨_,x,y⟩
   ·exact offersAt_of_not_blocked (by rw[x];simp) c s
   ·simp[offersAt,x,y]
  ·refine offersAt_of_not_blocked (λAG=>?_) c s;have:=(h.gI i z aa h1 h2).status;rcases this with y|y<;>rw[AG]at y<;>cases y
def join_step(μ:Mu)(m:Machine)(T:Trace)(h:JInv K μ m T):∃m' ops,stepT P m=(.next m',ops)/\(Nn K m' (T++ops)\/∃uO,Sv uO μ/\JInv K uO m' (T++ops)):=by
 obtain⟨gs,BL,sl,q,a,b,mt,md,mn,ct,cd,cn,rel,rfl,ha,hb,Js,Jj,vo,FG,mS,h7,rfl⟩:=h
 have GL:∀{w:World},WW K mt ct w->KCa K.ty K.Wg w\/4<=ct:=by
  intro w hW;rcases hW with⟨_,_,x⟩|⟨_,_,x⟩|⟨_,x,_⟩|⟨_,x,_⟩|⟨_,x,_⟩|⟨_,x,_⟩
  ·exact .inl (.inl x)
  ·exact .inl (.inr x)
  all_goals exact .inr aa
 have QJ:=Jj.status (GL FG);have Kb:=Js.status;have hj:=K.hj
 have CL:∀z∈gs,awake z:=by
  intro z hz;obtain⟨i,hi,rfl⟩:=Array.mem_iff_getElem.1 hz;by_cases e:i=0
  ·subst e;have:gs[0]=a:=by simpa[Array.getElem?_eq_getElem hi]using ha
   rw[this];exact awake_of (Kb.elim (λx=>.inl x.2) (λx=>.inr (.inl x.2.1)))
  ·by_cases e':i=K.j
   ·have:gs[i]=b:=by subst e';simpa[Array.getElem?_eq_getElem hi]using hb
    rw[this];exact awake_of (QJ.elim .inl (λx=>.inr (.inr x.1)))
   ·exact awake_of ((vo.gI i _ aa e' (Array.getElem?_eq_getElem hi)).status.elim .inl λx=>.inr (.inr x))
 have jW:∃(i:Nat) (g:Goroutine),gs[i]? =some g/\g.status=.running:=by
  rcases Kb with⟨_,x⟩|⟨rfl,_⟩
  ·exact⟨0,a,ha,x⟩
  ·rcases QJ with x|⟨_,rfl⟩
   ·exact⟨_,b,hb,x⟩
   ·rcases FG with⟨x,_⟩|⟨_,x,_⟩|⟨_,x,_⟩|⟨_,x,_⟩|⟨x,_⟩|⟨x,_⟩<;>omega
 obtain⟨i,z,d,bE,hi,hz,bw⟩:=crowd_pick (P:=P) (w:=BL) (sl:=sl) CL jW;have hM:MJ K mt md mn a (BL.at d):=Js.rely (UG BL d);have hC:WJ K ct cd cn b (BL.at d):=Jj.low (λ_ _=>rfl);have hB:=vo.at d;have hW:WW K mt ct (BL.at d):=MY FG rfl;generalize BL.at d=w at*;clear Js Jj vo FG;have P5:0<gs.size:=(Array.getElem?_eq_some_iff.1 ha).1;by_cases e0:i=0
 ·
  subst e0;obtain rfl:z=a:=by rw[ha]at hi;exact(Option.some.inj hi).symm
  have aE:mt≠10:=by rcases Kb with⟨x,_⟩|⟨_,x,_⟩;exact x;rw[hz]at x;cases x
  rcases hM.step aE hC hW hB.full with⟨a',w',es,hgo,jU,Db,wT,j0,oV,Jr,sr,bj⟩|⟨rfl,rfl,a',hgo,n,hg⟩
  ·have eG:=runT_crowd_go (P:=P) (sl:=bE) (i:=0) hi (show stepG P (0==0) z w=_ from hgo);have qz:=hC.status (GL hW);refine⟨_,_,bw.trans eG,.inr ⟨(7-ct,cn,sumTo gs.size q,rk ct j0,oV),?_,_,w',bE,q,a',b,j0,_,oV,ct,cd,cn,rel,rfl,rI P5 _ _,qJ aa hb (again_of_running (qz.elim .inl λx=>.inr x.1) _) _ _,Jr,wT,hB.main jU rfl Db,sr,mS,h7,by rw[iz]⟩⟩;refine .right _ (.right _ (.right _ ?_));rcases bj with bj|⟨he,bj⟩
   ·exact .left _ _ bj
   ·rw[he];exact .right _ bj
  ·
   have eG:=runT_crowd_go (P:=P) (sl:=bE) (i:=0) hi (show stepG P (0==0) z w=_ from hgo);obtain⟨r,rfl⟩:∃r,rel=some r:=by cases rel<;>simp_all
   cases hC with
   |c7 hq=>
    have fp:∀i,i≠0->Deaf (T++MemOp.ofEvents 0 z.frame.fn z.frame.place #[mk (.acquire (stA K.Wg))]) i=Deaf T i:=λi hi=>Deaf_other T (λx=>hi x.symm) _ zk;have Pe:MemOp.ofEvents 0 z.frame.fn z.frame.place #[mk (.acquire (stA K.Wg))]= #[{g:=0,fn:=z.frame.fn,pos:=z.frame.place,act:=.mark (.acquire (stA K.Wg))}]:=by simp[ofEvents_eq,MemAct.ofEvent,mk]
    refine⟨_,_,bw.trans eG,.inl ⟨_,w,bE,upd q K.j cn,a',n,rfl,rI P5 _ _,hg,⟨λi x h1 hx=>?_,λi hi=>?_⟩,?_⟩⟩
    ·obtain⟨y,hy,rfl⟩:=vT aa hx;rw[fp i aa];by_cases e:i=K.j
     ·subst e;rw[hb]at hy;obtain rfl:=Option.some.inj hy;rw[woken_quitsD hq,upd_same,hB.ej];exact hq
     ·have qG:=hB.gI i y h1 e hy;rw[woken_quitsD qG,upd_ne q cn e];exact qG
    ·rw[iz]at hi;rw[fp i aa];exact hB.above i hi
    ·rw[Pe];refine dJ.toPast (hB.past.acquire hB.e0 aa K.hW rfl rfl) ?_;rw[<-Pe,Deaf_own,hB.e0];rfl
 ·by_cases ej:i=K.j
  ·
   obtain rfl:z=b:=by rw[ej,hb]at hi;exact(Option.some.inj hi).symm
   have qA:(i==0)=false:=by simp;omega
   rcases hC.step hz hW hB mS with⟨b',w',es,hgo,Db,afG,oC,B9,zu,wT,hp',afp,sr,hwk,bj,h7'⟩|⟨rfl,rfl,hZ,cO,aeu,JP⟩
   ·have eG:=runT_crowd_go (P:=P) (sl:=bE) (i:=i) (by rw[ej];exact hb) (by rw[qA];exact hgo);have Jr:=hM.rely afG;obtain⟨j0,oV,Jt,yW,De⟩:=Jr.other z b'
    have hWf:WW K j0 oC w':=by
     rcases yW with rfl|⟨rfl,rfl⟩
     ·by_cases e:oC=7/\j0=10
      ·exfalso;obtain⟨rfl,rfl⟩:=e;have hs:=wT.status (.inr aa);have:=De rfl (hwk rfl rfl) (hs.imp id (·.1));omega
      ·rw[if_neg e]at sr;exact sr
     ·by_cases e:oC=7/\10=10
      ·rw[if_pos e]at sr;exact sr
      ·rw[if_neg e]at sr;exact Vg sr
    have Ka:(mh P gs i z b' w')[0]? =some (woken P z b' w' a):=by rw[Array.getElem?_setIfInBounds_ne aa,Array.getElem?_map,ha];rfl
    subst ej;refine⟨_,_,bw.trans eG,.inr ⟨(7-oC,B9,sumTo gs.size q,rk oC j0,oV),?_,_,w',bE,q,_,b',j0,md,oV,oC,_,B9,zu,rfl,Ka,rI hB.kR _ _,Jt,wT,hB.work rfl Db (hp' _ _),hWf,afp,h7',by rw[iz]⟩⟩;rcases bj with bj|⟨rfl,bj⟩
    ·exact .left _ _ aa
    ·exact .right _ (.left _ _ bj)
   ·
    obtain⟨⟨kc,qD⟩,aff⟩:=K.Qh w hZ
    have dY:∀(m:Nat) (c':CommCase),m≠K.kk->K.s.cases[m]? =some c'->NoWays w (gs.setIfInBounds K.j ph) c':=by intro m c' hm cA;obtain⟨h1,c,h2,h3⟩:=aff m c' hm cA;exact LA h2 h3 (hB.Eb ha hM)
    have QH:=crowd_sel_recv_closed (P:=P) (sl:=bE) hb (by rw[show(K.j==0)=false from by simp;omega];exact JP) K.hk dY qD (hB.Eb ha hM);rw[ej]at bw;have hkw:KCa K.ty K.Wg w:=(GL hW).resolve_right aa;obtain⟨⟨n1,g1⟩,n2,g2⟩:=K.serve cO w aeu hkw hB.full hB.Au;have Ks:rel=none:=by cases rel<;>simp_all
    subst Ks;have eo:MemOp.ofEvents K.j z.frame.fn z.frame.place #[]= #[]:=LO;rw[eo]at QH;have Gl:∀op∈(#[]++ #[{g:=K.j,fn:=cO.frame.fn,pos:=cO.frame.place,act:=.recvClosed K.c3}]:Trace),op={g:=K.j,fn:=cO.frame.fn,pos:=cO.frame.place,act:=.recvClosed K.c3}:=by intro op aS;simpa using aS
    have hd:∀i,Deaf (T++(#[]++ #[{g:=K.j,fn:=cO.frame.fn,pos:=cO.frame.place,act:=.recvClosed K.c3}])) i=Deaf T i:=λi=>Deaf_quiet (λop aS d=>by rw[Gl op aS];rfl);refine⟨_,_,bw.trans QH,.inr ⟨(7-1,n1,sumTo gs.size q,rk 1 mt,mn),.left _ _ aa,_,w,bE,q,a,_,mt,md,mn,1,0,n1,none,rfl,by rw[Array.getElem?_setIfInBounds_ne aa];exact ha,Array.getElem?_setIfInBounds_self_of_lt hB.kR,hM,.c1 g1 g2,?_,?_,rfl,aa,al⟩⟩
    ·refine⟨by simpa using hB.kR,λi x h1 h2 hx=>?_,λi hi=>?_,by rw[hd];exact hB.e0,by rw[hd];exact hB.ej,?_,hB.full,hB.Au⟩
     ·rw[Array.getElem?_setIfInBounds_ne (λe=>h2 e.symm)]at hx;rw[hd];exact hB.gI i x h1 h2 hx
     ·rw[hd];exact hB.above i (aZ hi)
     ·refine hB.past.appMute ?_ ?_ ?_<;>(intro op aS;rw[Gl op aS])
      ·rfl
      ·exact K.kL
      ·simp
    ·rcases hW with⟨x,_,y⟩|⟨x,_,y⟩|⟨_,x,_⟩|⟨_,x,_⟩|⟨_,x,_⟩|⟨_,x,_⟩<;>first|omega|skip
     ·exact .inl ⟨x,aa,y⟩
     ·exact .inr (.inl ⟨x,aa,y⟩)
  ·
   obtain⟨g',es,q',eG,bj,oG⟩:=hB.leave aa ej hi hz bE;obtain⟨j0,oV,Jt,yW,_⟩:=hM.other z g';have qz:=hC.status (GL hW)
   have Ka:(mh P gs i z g' w)[0]? =some (woken P z g' w a):=by rw[Array.getElem?_setIfInBounds_ne aa,Array.getElem?_map,ha];rfl
   refine⟨_,_,bw.trans eG,.inr ⟨(7-ct,cn,sumTo gs.size q',rk ct j0,oV),.right _ (.right _ (.left _ _ bj)),_,w,bE,q',_,b,j0,md,oV,ct,cd,cn,rel,rfl,Ka,qJ (λe=>ej e.symm) hb (again_of_running (qz.elim .inl λx=>.inr x.1) _) _ _,Jt,hC,oG,?_,mS,h7,by rw[iz]⟩⟩;rcases yW with rfl|⟨rfl,rfl⟩
   ·exact hW
   ·exact Vg hW
def ahu{μ:Mu}{m:Machine}(h:JInv K μ m T):∃N m' T',runNT P N m T=(.next m',T')/\Nn K m' T':=by
 induction μ using aiO.induction generalizing m T with
 |_ μ ih=>
  obtain⟨m',ops,hs,he|⟨uO,bj,hI⟩⟩:=join_step μ m T h
  ·exact⟨1,m',T++ops,by simp only[runNT,hs],he⟩
  ·obtain⟨N,oT,ov,hr,hd⟩:=ih uO bj hI;exact⟨N+1,oT,ov,by simp only[runNT,hs];exact hr,hd⟩
end
end
section
open Go.ConcN (sumTo upd sumTo_upd upd_ne upd_same)
variable {P:Program}
structure Duo.E5 (D:Duo P) (h x:Nat) (s:Seat) (g:Goroutine) (σ:Hp) (gs:Array Goroutine) (w:World) (T:Trace) (q:Nat->Nat) (J:Nat->Prop) (n:Nat) (y:Goroutine):Prop where
 hg:gs[h]? =some g
 hy:gs[x]? =some y
 aec:dW P (x==0) D.KW D.Still D.B s n y
 base:D.Base gs w T q
 past:dJ D.S D.Still D.Q D.j x w.heap.size (Knows T h) T
 og:cN J w σ
 fA:∀b,D.Hid b->J b
variable {s:Seat}{g:Goroutine}{σ:Hp}
def Duo.E5.picked{D:Duo P}{h x:Nat}(t:D.gf h x)(hs:D.Fits s)(hr:g.status=.running){J:Nat->Prop}:∀(M:Nat) {gs:Array Goroutine} {w:World} {T:Trace} {q:Nat->Nat} {n:Nat} {y:Goroutine} (sl:Option (Nat×Nat)),
 n+sumTo gs.size q=M->D.E5 h x s g σ gs w T q J n y->∃N bZ w' bE T' q' n' y' dd uI,runNT P N (crowd gs w sl) T=(.next (crowd bZ w' bE),T')/\D.E5 h x s g σ bZ w' T' q' J n' y'/\stepT P (crowd bZ w' bE)=runT P (crowd bZ (w'.at dd) uI) h:=by
 intro M
 induction M using Nat.strongRecOn with
 |_ M ih=>
  intro gs w T q n y sl hM hp;obtain⟨hg,hy,lF,hb,Kk,fD,hJ⟩:=hp;have vI:=dW.status lF;obtain⟨i,z,d,bE,hi,hz,bw⟩:=crowd_pick (P:=P) (w:=w) (sl:=sl) (hb.awake t hg hy (.inl hr) (vI.elim (λa=>.inl a.1) (λa=>.inr (.inl a.1)))) ⟨h,g,hg,hr⟩;by_cases eh:i=h
  ·subst eh;exact⟨0,gs,w,sl,T,q,n,y,d,bE,rfl,⟨hg,hy,lF,hb,Kk,fD,hJ⟩,bw⟩
  ·by_cases ex:i=x
   ·subst ex;obtain rfl:z=y:=by rw[hy]at hi;exact(Option.some.inj hi).symm
    obtain⟨bZ,y',n',d',es,eG,bj,gE,eX,tU,qH,dE,eF⟩:=D.other t hs (sl:=bE) (hb.at d) hg (λd=>again_of_running (.inl hr) _) (λc b=>offersAt_of_not_blocked (by rw[hr];simp) c b) hy hz lF;obtain⟨N,wQ,w2,wC,T2,q2,n2,y2,dd,zF,k1,k2,k3⟩:=ih (n'+sumTo bZ.size q) (by rw[gE];omega) bE rfl ⟨eX,tU,qH,dE,Kk.other (λ_ x=>x.app _) (λl hl=>(D.apart l hl).2) hb.mA eF,fD.at d',hJ⟩;exact⟨N+1,wQ,w2,wC,T2,q2,n2,y2,dd,zF,by simp only[runNT,bw,eG];exact k1,k2,k3⟩
   ·obtain⟨i1,i2⟩:=t.Aq eh ex;obtain⟨g',es,q',eG,hm,bj,dE⟩:=hb.leave i1 i2 hi hz d bE
    obtain⟨N,wQ,w2,wC,T2,q2,n2,y2,dd,zF,k1,k2,k3⟩:=ih (n+sumTo (mh P gs i z g' (w.at d)).size q') (by rw[iz];omega) bE rfl
     ⟨qJ (λe=>eh e.symm) hg (again_of_running (.inl hr) _) _ _,qJ (λe=>ex e.symm) hy (dW.stays (hb.at d).chans hs lF) _ _,lF,dE,
      Kk.appMute (λ_ x=>x.app _) (λop aS=>by obtain⟨e,he,rfl⟩:=Conc.mem_ofEvents aS;exact touch_mute (hm e he)) (λop aS=>by obtain⟨e,he,rfl⟩:=Conc.mem_ofEvents aS;exact low_mute (hm e he) _),fD.at d,hJ⟩
    exact⟨N+1,wQ,w2,wC,T2,q2,n2,y2,dd,zF,by simp only[runNT,bw,eG];exact k1,k2,k3⟩
structure Duo.Closed (D:Duo P) (c3:Nat) (s:Seat) (g:Goroutine) (σ:Hp) (gs:Array Goroutine) (w:World) (T:Trace) (q:Nat->Nat) (J:Nat->Prop) (n:Nat) (y:Goroutine):Prop where
 hg:gs[0]? =some g
 hy:gs[D.j]? =some y
 pos:0<n
 aec:dW P false D.KW D.Still D.B s n y
 kR:D.j<gs.size
 gI:∀i g,0<i->i≠D.j->gs[i]? =some g->QuitsD P (q i) (Deaf T i) g
 above:∀i,gs.size<=i->Deaf T i=0
 d0:Deaf T 0=0
 dj:Deaf T D.j=0
 k:D.K w
 shut:∃k,w.heap[c3]? =some (.chan 0 #[] true k k false)
 open_:∀c,D.chans c->c≠c3->Open c w
 q9:lh D.W w
 nr:pk D.Q T
 past:dJ D.S D.Still D.Q D.j D.j w.heap.size (Knows T 0) T
 og:cN J w σ
 fA:∀b,D.Hid b->J b
 mA:D.B<=w.heap.size
def Duo.shut(D:Duo P)(hs:D.Fits s)(gT:∀cc∈s.cases,cc.send=none){c3 kk:Nat}{z:Value}(hc:D.chans c3)(hk:s.cases[kk]? =some (rcase c3 z)){g':Goroutine}{m:Machine}{T:Trace}(mG:D.St 0 D.j s g σ m T)(hr:g.status=.running)(De:mayWake P g=true)(ig:g'.status=.running)(hKs:∀w k,D.K w->D.K (w.setChan c3 0 #[] true k k false))(aM:∀w k,w.heap[c3]? =some (.chan 0 #[] false k k false)->stepG P true g w=.go g' (w.setChan c3 0 #[] true k k false) (closeEvents c3)):
 ∃N gs w sl T' q J n y,runNT P N m T=(.next (crowd gs w sl),T')/\D.Closed c3 s g' σ gs w T' q J n y:=by
 have t:D.gf 0 D.j:=.inl ⟨rfl,rfl⟩;have hj:=D.hj;obtain⟨gs,w,sl,q,J,n,y,rfl,e1,e2,e3,e4,e5,e6,e7⟩:=mG;obtain⟨N,gs,w,sl,T',q,n,y,dd,bE,jW,⟨hg,hy,lF,hb,hp,fD,hJ⟩,bw⟩:=Duo.E5.picked t hs hr _ sl rfl ⟨e1,e2,e3,e4,e5,e6,e7⟩;obtain⟨k,qD⟩:=(hb.at dd).chans c3 hc;have hgo:=aM (w.at dd) k qD;have eG:=runT_crowd_go (P:=P) (sl:=bE) (i:=0) hg (show stepG P (0==0) g (w.at dd)=_ from hgo)
 have QA:∀e∈closeEvents c3,Calm e:=by intro e he;simp[closeEvents]at he;rcases he with rfl|rfl<;>exact⟨⟨al,al⟩,al⟩
 have hcB:c3<w.heap.size:=(Array.getElem?_eq_some_iff.1 (show w.heap[c3]? =_ from qD)).1;have nU:((w.at dd).setChan c3 0 #[] true k k false).heap[c3]? =some (.chan 0 #[] true k k false):=heap_setChan_self _ qD _ _ _ _ _ _
 have afT:∃n' y',0<n'/\woken P g g' ((w.at dd).setChan c3 0 #[] true k k false) y=y'/\dW P false D.KW D.Still D.B s n' y':=by
  have C8:(D.j==0)=false:=by simp;omega
  rw[C8]at lF;rcases lF with⟨k',rfl,hw⟩|⟨rfl,pB,cO,rfl,qu⟩
  ·exact⟨_,y,aa,woken_of_again (again_of_running (.inl hw.running) _),.inl ⟨k',rfl,hw⟩⟩
  ·refine⟨1,{parked cO s.cases s.shape with status:=.running},aa,?_,.inl ⟨0,rfl,cO,qu.tries _ _⟩⟩;unfold woken;rw[if_pos (by rw[De,ig];rfl)];exact again_some_closed hk nU
 obtain⟨n',y',Df,tU,dT⟩:=afT
 have fp:∀i,Deaf (T'++MemOp.ofEvents 0 g.frame.fn g.frame.place (closeEvents c3)) i=Deaf T' i:=by
  intro i;by_cases e:i=0
  ·subst e;rw[Deaf_own];exact deafBehind_still (λe h=>(QA e h).1) _
  ·exact Deaf_other T' (λx=>e x.symm) _ (λop aS=>by obtain⟨e,_,rfl⟩:=Conc.mem_ofEvents aS;rfl)
 refine⟨N+1,mh P gs 0 g g' ((w.at dd).setChan c3 0 #[] true k k false),(w.at dd).setChan c3 0 #[] true k k false,bE,T'++MemOp.ofEvents 0 g.frame.fn g.frame.place (closeEvents c3),q,J,n',y',?_,rI (hb.lt (.inl rfl)) _ _,?_,Df,dT,
  by rw[iz];exact hb.kR,λi x h1 h2 hx=>?_,λi hi=>?_,(fp 0).trans hb.d0,(fp _).trans hb.dj,hKs _ _ (hb.at dd).k,⟨k,nU⟩,λc cP aE=>?_,(hb.q9.at dd).setChan _ _ _ _ _ _ _,hb.nr.events λe he=>Bf (QA e he).2,?_,(fD.at dd).setChan (hJ c3 (.inr (.inl hc))) _ _ _ _ _ _,hJ,by have:=(hb.at dd).mA;simpa[World.setChan]using this⟩
 ·rw[runNT_add,jW];simp only[runNT,bw,eG]
 ·rw[Array.getElem?_setIfInBounds_ne aa,Array.getElem?_map,hy];simp only[Option.map_some];rw[tU]
 ·obtain⟨v,hv,rfl⟩:=vT aa hx;have hq:=hb.gI i v h1 h2 hv;rw[woken_quitsD hq,fp];exact hq
 ·rw[iz]at hi;rw[fp];exact hb.above i hi
 ·obtain⟨k0,h0⟩:=hb.chans c cP;exact⟨k0,by rw[heap_setChan_ne _ _ _ _ _ _ _ (λe=>aE e.symm)];exact h0⟩
 ·have gE:((w.at dd).setChan c3 0 #[] true k k false).heap.size=w.heap.size:=by simp only[World.setChan,Array.size_setIfInBounds];rfl
  rw[gE];refine hp.appH (λop aS=>by obtain⟨e,_,rfl⟩:=Conc.mem_ofEvents aS;rfl) (λop aS b eS=>?_) (λop aS=>?_)
  ·obtain⟨e,he,rfl⟩:=Conc.mem_ofEvents aS
   have aeV:∀a:Addr,b.loc≠.cell a:=by intro a ha;simp[closeEvents]at he;rcases he with rfl|rfl<;>simp[MemAct.ofEvent,MemAct.touch?]at eS;subst eS;cases ha
   have none:¬(D.S b.loc\/D.Still b.loc\/D.Q b.loc):=λx=>by obtain⟨a,ha⟩:=D.cell _ x;exact aeV a ha
   exact⟨λx=>absurd (.inl x) none,λx=>absurd (.inr (.inl x)) none,λx=>absurd (.inr (.inr x)) none⟩
  ·obtain⟨e,he,rfl⟩:=Conc.mem_ofEvents aS;simp[closeEvents]at he;rcases he with rfl|rfl<;>exact hcB
end
variable {α:Type}
def RO(P:Program)(A:Addr->Prop):Sem α->Prop
 | .pure _=>True
 | .load m a k=>m=.plain/\A a/\∀v,RO P A (k v)
 | .shape _ k=>∀x,RO P A (k x)
 | .frozen _ k=>∀x,RO P A (k x)
 | .program k=>RO P A (k P)
 | .halt _=>True
 |_=>False
variable {P:Program}{A:Addr->Prop}{O:Type}
def VE(f:α->Sem O)(hf:∀a,RO P A (f a)):∀(s:Sem α),RO P A s->RO P A (s.bind f):=by
 intro s
 induction s with
 |pure a=>exactλ_=>hf a
 |load m a k ih=>exactλh=>⟨h.1,h.2.1,λv=>ih v (h.2.2 v)⟩
 |shape r k ih=>exactλh x=>ih x (h x)
 |frozen a k ih=>exactλh x=>ih x (h x)
 |program k ih=>exactλh=>ih P h
 |halt h=>exactλ_=>trivial
 |store|new|freeze|getObj|setObj|choose|sys|mark=>exactλh=>h.elim
def yj{s:Sem α}{f:α->Sem O}(h:RO P A s)(hf:∀a,RO P A (f a)):RO P A (s>>=f):=VE f hf s h
def BV(a:α):RO P A (pure a:Sem α):=trivial
def VF{c:Prop} [Decidable c]{s t:Sem α}(h:RO P A s)(k:RO P A t):RO P A (if c then s else t):=by split;exact h;exact k
variable {H:Halt->Hp->Prop}{σ:Hp}
def anf{Q:α->Hp->Prop}:∀(s:Sem α),RO P A s->wpS P s Q H σ->∀(w:World) (es:Array Event),(∀b o,σ.f b=some o->w.heap[b]? =some o)->
 ∃bX r,s.runT P w es=(r,es++bX)/\(∀e∈bX,∃a:Addr,e=⟨.cell a,false,false⟩/\A a/\(σ.f a.block).isSome=true)/\((∃a,r=.ok a w/\Q a σ)\/(∃h,r=.halt h w/\H h σ)):=by
 intro s
 induction s with
 |pure a=>exactλ_ h w es hs=>⟨#[],.ok a w,by simp[Sem.runT],al,.inl ⟨a,rfl,h⟩⟩
 |load m a k ih=>
  rintro⟨rfl,hA,hr⟩ ⟨v,hv,h⟩ w es hs;have hS:cN (λ_=>False) w σ:=⟨λ{b o} hb=>hs b o hb,λ_ x=>x.elim,λ_ x=>x.elim⟩;have hw:=hS.cell hv;obtain⟨c,e,z,hb,_,_⟩:=Ai hv;obtain⟨bX,r,h1,h2,h3⟩:=ih v (hr v) h w (es.push ⟨.cell a,false,false⟩) hs;refine⟨#[⟨.cell a,false,false⟩]++bX,r,?_,λx hx=>?_,h3⟩
  ·unfold Sem.runT;simp only[hw];rw[show(Mode.plain==Mode.atomic)=false from rfl,h1,push_eq_append,Array.append_assoc]
  ·rcases Array.mem_append.1 hx with hx|hx
   ·simp at hx;subst hx;exact⟨a,rfl,hA,by rw[hb];rfl⟩
   ·exact h2 x hx
 |shape r k ih=>
  rintro hr ⟨hv,h⟩ w es hs;have hS:cN (λ_=>False) w σ:=⟨λ{b o} hb=>hs b o hb,λ_ x=>x.elim,λ_ x=>x.elim⟩;obtain⟨o,ho⟩:=Option.isSome_iff_exists.1 hv;unfold Sem.runT;rw[hS.Up ho];exact ih _ (hr _) h w es hs
 |frozen a k ih=>
  rintro hr ⟨hv,h⟩ w es hs;have hS:cN (λ_=>False) w σ:=⟨λ{b o} hb=>hs b o hb,λ_ x=>x.elim,λ_ x=>x.elim⟩;obtain⟨o,ho⟩:=Option.isSome_iff_exists.1 hv;unfold Sem.runT;rw[hS.I6 ho];exact ih _ (hr _) h w es hs
 |program k ih=>exactλhr h w es hs=>ih _ hr h w es hs
 |halt h=>exactλ_ x w es hs=>⟨#[],.halt h w,by simp[Sem.runT],al,.inr ⟨h,rfl,x⟩⟩
 |store|new|freeze|getObj|setObj|choose|sys|mark=>exactλh=>h.elim
def anb{a:Addr}(h:A a):RO P A (load a):=⟨rfl,h,λ_=>trivial⟩
variable {t:TypeId}
def ane(ht:dx P t=false){a:Addr}(h:A a):RO P A (loadVar t a):=by
 unfold loadVar isAgg;show RO P A (Sem.bind (Sem.bind (match P.underlying t with|some d=>pure d|none=>stuck "no such type") λd=>match d with| .struct _| .array _ _=>pure true|_=>pure false) _);unfold dx at ht;split
 ·rename_i d hd;rw[hd]at ht
  cases d<;>first|(simp at ht;done)|exact anb h
 ·trivial
def BE(P:Program)(op:Op)(ρ:av):Prop:=
 match op with
 | .move _| .assign _=>True
 | .load t x=>(∃a,ak ρ x=.pointer (some a))/\dx P t=false
 | .nilCheck x=>(∃a,ak ρ x=.pointer (some a))\/∃f l c,ak ρ x=.func (.func f) l c
 | .fieldAddr s x f=>(∃a,ak ρ x=.pointer (some a))/\(bH P s f).isSome=true
 | .extract _ _=>True
 | .binOp op _ x y _=>∃v,cG op (ak ρ x) (ak ρ y)=some v
 |_=>False
variable {op:BinOp}{v:Value}
def am8{x y:Value}(h:cG op x y=some v):RO P A (binOp op t x y):=by
 unfold cG at h
 split at h<;>first
  |(simp[binOp,Op.stringOp,Op.intArith,Op.intCmp,Op.intBits];done)
  |(split at h
    ·rename_i hc
     first
     |(subst hc;simp[binOp,Op.intArith,Op.intCmp,Op.intBits];exact BV _)
     |(obtain⟨rfl,hb⟩:=hc;simp[binOp,Op.intDiv,hb];exact BV _)
     |(simp[binOp,Op.shift,Int.not_lt.2 hc];exact BV _)
     |(have cA:¬(IntKind.i64.max<((_:Nat):Int)):=Int.not_lt.2 hc
       simp only[binOp,Op.stringOp,gt_iff_lt,if_neg cA];exact BV _)
    ·cases h)
  |(simp[binOp,Op.stringOp];exact BV _)
  |cases h
def am9{x y:Operand}{a b:Value}(h:(∀c,a≠.agg c)/\(a=.nilIface->b=.nilIface->(Region.isConst x||Region.isConst y)=true)):RO P A (eqGuard op t x y a b):=by
 unfold eqGuard;refine VF trivial ?_;obtain⟨h1,h2⟩:=h
 cases a<;>cases b<;>first
  |exact trivial
  |exact absurd rfl (h1 _)
  |(have h3:=h2 rfl rfl
    rw[if_pos]
    ·exact trivial
    ·cases x<;>cases y<;>first|rfl|(simp[Region.isConst]at h3))
def anh{d:TypeDesc}{f:TypeDesc->Sem α}(h:P.underlying t=some d)(k:RO P A (f d)):RO P A (underlying t>>=f):=by show RO P A (Sem.bind (match P.underlying t with|some d=>pure d|none=>stuck "no such type") f);rw[h];exact k
def ang{i:TypeInfo}{f:Nat->Sem α}(h:P.info? t=some i)(k:RO P A (f i.size)):RO P A (sizeOf t>>=f):=by show RO P A (Sem.bind (Sem.bind (match P.info? t with|some i=>pure i|none=>stuck "no such type") λi=>pure i.size) f);rw[h];exact k
def El(op:Op)(ρ:av)(y:Addr):Prop:=match op with
 | .load _ x=>ak ρ x=.pointer (some y)
 |_=>False
variable {o:Oper}{ρ:av}
def ana(h:BE P o.op ρ):RO P (El o.op ρ) (execOp (ak ρ) o):=by
 unfold execOp
 cases ho:o.op<;>rw[ho]at h<;>first|exact h.elim|skip
 case move x=>trivial
 case assign x=>trivial
 case load t x=>
  obtain⟨⟨a,ha⟩,ht⟩:=h;refine yj ?_ λ_=>trivial;unfold Instr.loadAt;rw[ha];exact ane ht ha
 case fieldAddr s x f=>
  obtain⟨⟨a,ha⟩,hf⟩:=h;refine yj ?_ λ_=>trivial;unfold Instr.fieldAt;unfold bH at hf;split at hf
  ·rename_i fs hu;split at hf
   ·rename_i fd CY;split at hf
    ·rename_i hs;simp only[Bool.and_eq_true,bne_iff_ne,ne_eq]at hs;obtain⟨i,hi⟩:=Option.isSome_iff_exists.1 hs.1;have hz:i.size≠0:=by simpa[cq,hi]using hs.2
     rw[ha];refine anh hu ?_;simp only[CY];refine yj trivial λ_=>?_;refine yj ?_ λ_=>trivial;unfold fieldPlace;refine ang hi ?_;rw[if_neg hz];trivial
    ·cases hf
   ·cases hf
  ·cases hf
 case nilCheck x=>
  rcases h with⟨a,ha⟩|⟨f,l,c,ha⟩<;>simp only[ha]<;>trivial
 case extract x i=>
  refine yj ?_ λ_=>trivial;unfold Instr.extract;split
  ·split<;>trivial
  ·trivial
 case binOp op t x y t2=>
  obtain⟨v,hv⟩:=h;refine yj ?_ λ_=>trivial;have hn:=Oe hv;exact yj (am9 ⟨hn.1,λe=>absurd e hn.2⟩) λ_=>am8 hv
def nG:Sem Next->Prop
 | .pure n=>∃v,n=.value v
 | .load _ _ k=>∀v,nG (k v)
 | .store _ _ _ k=>nG k
 | .new _ k=>∀b,nG (k b)
 | .shape _ k=>∀x,nG (k x)
 | .freeze _ _ k=>nG k
 | .frozen _ k=>∀x,nG (k x)
 | .getObj _ k=>∀x,nG (k x)
 | .setObj _ _ k=>nG k
 | .choose _ k=>∀x,nG (k x)
 | .sys _ k=>∀x,nG (k x)
 | .program k=>∀x,nG (k x)
 | .mark _ k=>nG k
 | .halt _=>True
def VB(s:Sem Value):nG (s.bind λv=>.pure (.value v)):=by induction s<;>first|exact⟨_,rfl⟩|trivial|(rename_i ih;exactλx=>ih x)|(rename_i ih;exact ih)
def akO{V:Value->Hp->Prop}{D:Deferred->Hp->Prop}{C:FuncId->Array Value->Hp->Prop}:∀(s:Sem Next) (σ:Hp),nG s->wpS P s (pd V D C) H σ->wpS P s (λn σ=>∃v,n=.value v/\V v σ) H σ:=by
 intro s
 induction s with
 |pure a=>rintro σ ⟨v,rfl⟩ h;exact⟨v,rfl,h⟩
 |load m a k ih=>exactλσ o ⟨v,hv,h⟩=>⟨v,hv,ih v σ (o v) h⟩
 |store m a v k ih=>
  intro σ o h
  cases v<;>first|exact h.elim|exact⟨h.1,h.2.1,ih _ o h.2.2⟩
 |new x k ih=>exactλσ o h b hb=>ih _ _ (o b) (h b hb)
 |shape r k ih=>exactλσ o h=>⟨h.1,ih _ _ (o _) h.2⟩
 |freeze a n k ih=>exactλσ o h=>⟨h.1,ih _ o h.2⟩
 |frozen a k ih=>exactλσ o h=>⟨h.1,ih _ _ (o _) h.2⟩
 |getObj r k ih=>exactλσ o ⟨x,ho,hc,h⟩=>⟨x,ho,hc,ih _ _ (o x) h⟩
 |setObj r x k ih=>exactλσ o ⟨x',ho,hc,h⟩=>⟨x',ho,hc,ih _ o h⟩
 |choose q k ih=>
  intro σ o h;unfold wpS at h|-;split
  ·rename_i hf;rw[if_pos hf]at h;exact ih _ _ (o _) h
  ·rename_i hf;rw[if_neg hf]at h;exactλt=>ih _ _ (o _) (h t)
 |sys c k ih=>exactλσ o h=>h.elim
 |program k ih=>exactλσ o h=>ih _ _ (o _) h
 |mark m k ih=>exactλσ o h=>⟨h.1,ih _ o h.2⟩
 |halt h=>exactλσ _ x=>x
def U1:Op->Bool
 | .move _| .assign _| .load .. | .fieldAddr .. | .extract .. | .binOp .. =>true
 |_=>false
def akN(h:U1 o.op=true\/(∃x,o.op=.nilCheck x/\((∃a,ak ρ x=.pointer (some a))\/∃f l c,ak ρ x=.func (.func f) l c))):nG (execOp (ak ρ) o):=by
 unfold execOp;rcases h with h|⟨x,hx,ha⟩
 ·cases ho:o.op<;>rw[ho]at h<;>first|exact⟨_,rfl⟩|exact VB _|(simp[U1]at h;done)
 ·rw[hx];rcases ha with⟨a,ha⟩|⟨f,l,c,ha⟩<;>simp only[ha]<;>exact⟨_,rfl⟩
def A5:Op->Bool
 | .move _| .assign _| .load .. | .fieldAddr .. | .extract .. | .nilCheck _=>true
 |_=>false
def DV(P:Program):Op->Bool
 | .load t _=> !dx P t
 |_=>true
def anW{op:Op}(hk:A5 op=true)(hl:DV P op=true)(h:cR P op ρ σ=some v):BE P op ρ:=by
 cases op<;>first|(simp[A5]at hk;done)|exact trivial|skip
 case load t x=>
  simp only[cR]at h;split at h
  ·rename_i a ha;exact⟨⟨a,ha⟩,by simpa[DV]using hl⟩
  ·cases h
 case nilCheck x=>
  simp only[cR]at h;split at h
  ·rename_i a ha;exact .inl ⟨a,ha⟩
  ·rename_i f l c ha;exact .inr ⟨f,l,c,ha⟩
  ·cases h
 case fieldAddr s x f=>
  simp only[cR]at h;split at h
  ·rename_i a off ha hf;exact⟨⟨a,ha⟩,by rw[hf];rfl⟩
  ·cases h
def an2(hs:BE P o.op ρ)(hv:cR P o.op ρ σ=some v)(w:World)(hw:∀b o,σ.f b=some o->w.heap[b]? =some o):
 ∃es,(execOp (ak ρ) o).runT P w #[]=(.ok (.value v) w,es)/\∀e∈es,∃a:Addr,e=⟨.cell a,false,false⟩/\El o.op ρ a/\(σ.f a.block).isSome=true:=by
 have hV:nG (execOp (ak ρ) o):=by
  refine akN ?_
  cases ho:o.op<;>rw[ho]at hs<;>first|exact hs.elim|exact .inl rfl|skip
  exact .inr ⟨_,rfl,hs⟩
 let E0:Env P:={main:=true,st:=λ_ _ _ _=>False,ik:=λh _=>h,own:=λ_ _ _ _ _ h=>h.elim}
 have h1:aT E0 {o with dst:=some 0} ρ [] σ (λaD cX ae=>aD 0=v/\ae=σ) (λ_ _=>False):=L5 (o:={o with dst:=some 0}) hv ⟨by simp[aB,up],rfl⟩;have h2:=rK h1;unfold wpOp at h2;have h3:=akO _ σ (by exact hV) h2;obtain⟨bX,r,e1,e2,e3⟩:=anf _ (ana hs) h3 w #[] hw;refine⟨bX,?_,e2⟩;rcases e3 with⟨nx,rfl,v',rfl,hn⟩|⟨h,rfl,hh⟩
 ·obtain⟨h4,_⟩:(aB ρ (some 0) v') 0=v/\σ=σ:=hn;simp[aB,up]at h4;subst h4;simpa using e1
 ·cases h<;>exact hh.elim
end Go.Qw
