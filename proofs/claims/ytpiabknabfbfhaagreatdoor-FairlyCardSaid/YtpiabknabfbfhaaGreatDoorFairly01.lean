/- Part 1. -/
import Derived.Conc.Beside
import Derived.Conc.Listed
import Derived.Conc.Own
import Derived.Conc.Token
import Derived.KernelRfl
set_option linter.all false
set_option maxRecDepth 100000
set_option maxHeartbeats 8000000
namespace Go.Qw
open Go
variable {p:Prop}
def aa(h:p:=by omega):p:=h
def ah(h:p:=by kernel_rfl):p:=h
def ai(h:p:=by decide):p:=h
def ir(h:p:=by decide+kernel):p:=h
def al(h:p:=by simp):p:=h
variable {q:Prop}
def aZ(h:p)(e:p->q:=by intro h;simpa using h):q:=e h
abbrev pV(b:Nat):Go.Value:=.pointer (some ⟨b,0,none⟩)
def bl{α:Sort _}{a b:α}(h:a=b:=by rfl):a=b:=h
def ag(h:q)(e:q->p:=by intro h;simp only[go_sem,seval];exact h):p:=e h
def au(e:p:=by simp only[go_sem,seval]<;>rfl):p:=e
variable {F0:Prop}
def aG(a:F0)(h:q)(e:F0->q->p:=by intro a h;simp only[go_sem,seval,a];exact h):p:=e a h
def aK(a:F0)(e:F0->p:=by intro a;simp only[go_sem,seval,a]<;>rfl):p:=e a
variable {F1:Prop}
def bt(a:F0)(b:F1)(h:q)(e:F0->F1->q->p:=by intro a b h;simp only[go_sem,seval,a,b];exact h):p:=e a b h
def wG(a:F0)(b:F1)(e:F0->F1->p:=by intro a b;simp only[go_sem,seval,a,b]<;>rfl):p:=e a b
variable {F2:Prop}
def bO(a:F0)(b:F1)(c:F2)(h:q)(e:F0->F1->F2->q->p:=by intro a b c h;simp only[go_sem,seval,a,b,c];exact h):p:=e a b c h
def nC(a:F0)(b:F1)(c:F2)(e:F0->F1->F2->p:=by intro a b c;simp only[go_sem,seval,a,b,c]<;>rfl):p:=e a b c
variable {F3:Prop}
def fB(a:F0)(b:F1)(c:F2)(d:F3)(h:q)(e:F0->F1->F2->F3->q->p:=by intro a b c d h;simp only[go_sem,seval,a,b,c,d];exact h):p:=e a b c d h
def iB(a:F0)(b:F1)(c:F2)(d:F3)(e:F0->F1->F2->F3->p:=by intro a b c d;simp only[go_sem,seval,a,b,c,d]<;>rfl):p:=e a b c d
variable {F4:Prop}
def lO(a:F0)(b:F1)(c:F2)(d:F3)(f:F4)(h:q)(e:F0->F1->F2->F3->F4->q->p:=by intro a b c d f h;simp only[go_sem,seval,a,b,c,d,f];exact h):p:=e a b c d f h
def pW(a:F0)(b:F1)(c:F2)(d:F3)(f:F4)(e:F0->F1->F2->F3->F4->p:=by intro a b c d f;simp only[go_sem,seval,a,b,c,d,f]<;>rfl):p:=e a b c d f
variable {F5:Prop}
def BC(a:F0)(b:F1)(c:F2)(d:F3)(f:F4)(g:F5)(h:q)(e:F0->F1->F2->F3->F4->F5->q->p:=by intro a b c d f g h;simp only[go_sem,seval,a,b,c,d,f,g];exact h):p:=e a b c d f g h
def Hw(a:F0)(b:F1)(c:F2)(d:F3)(f:F4)(g:F5)(e:F0->F1->F2->F3->F4->F5->p:=by intro a b c d f g;simp only[go_sem,seval,a,b,c,d,f,g]<;>rfl):p:=e a b c d f g
variable {F6:Prop}
def Es(a:F0)(b:F1)(c:F2)(d:F3)(f:F4)(g:F5)(i:F6)(h:q)(e:F0->F1->F2->F3->F4->F5->F6->q->p:=by intro a b c d f g i h;simp only[go_sem,seval,a,b,c,d,f,g,i];exact h):p:=e a b c d f g i h
def Hx(a:F0)(b:F1)(c:F2)(d:F3)(f:F4)(g:F5)(i:F6)(e:F0->F1->F2->F3->F4->F5->F6->p:=by intro a b c d f g i;simp only[go_sem,seval,a,b,c,d,f,g,i]<;>rfl):p:=e a b c d f g i
def pT{F7:Prop}(a:F0)(b:F1)(c:F2)(d:F3)(f:F4)(g:F5)(i:F6)(j:F7)(h:q)(e:F0->F1->F2->F3->F4->F5->F6->F7->q->p:=by intro a b c d f g i j h;simp only[go_sem,seval,a,b,c,d,f,g,i,j];exact h):p:=e a b c d f g i j h
def s7{F7:Prop}(a:F0)(b:F1)(c:F2)(d:F3)(f:F4)(g:F5)(i:F6)(j:F7)(e:F0->F1->F2->F3->F4->F5->F6->F7->p:=by intro a b c d f g i j;simp only[go_sem,seval,a,b,c,d,f,g,i,j]<;>rfl):p:=e a b c d f g i j
structure Hp where
 f:Nat->Option Obj
structure cN (J:Nat->Prop) (w:World) (σ:Hp):Prop where
 heap:∀{b:Nat} {o:Obj},σ.f b=some o->w.heap[b]? =some o
 fA:∀b,J b->σ.f b=none
 low:∀b,J b->b<w.heap.size
def Hp.le(σ τ:Hp):Prop:=∀b o,σ.f b=some o->τ.f b=some o
def Hp.le_refl(σ:Hp):σ.le σ:=λ_ _ h=>h
variable {σ τ:Hp}
def Hp.le_trans{υ:Hp}(h:σ.le τ)(k:τ.le υ):σ.le υ:=λb o x=>k b o (h b o x)
def Hp.cell?(σ:Hp)(a:Addr):Option Value:=
 match σ.f a.block with
 |some (.cells c _ _)=>if a.spot.isSome then none else c[a.off]?
 |_=>none
def Hp.frozen?(σ:Hp)(a:Addr):Bool:=
 match σ.f a.block with
 |some (.cells _ _ (lo,hi))=>lo<=a.off&&a.off<hi
 |_=>false
def Hp.shape?(σ:Hp)(r:Nat):Option (TypeId×Nat):=
 match σ.f r with
 |some (.cells c elem _)=>some (elem,c.size)
 |_=>none
def Hp.set(σ:Hp)(b:Nat)(o:Obj):Hp:={f:=λx=>if x=b then some o else σ.f x}
def Hp.modify(σ:Hp)(b:Nat)(g:Obj->Obj):Hp:={f:=λx=>if x=b then(σ.f b).map g else σ.f x}
def yt(a:Addr)(v:Value):Obj->Obj
 | .cells c elem frozen=>.cells (if a.spot.isSome then c else c.setIfInBounds a.off v) elem frozen
 |o=>o
def Fj(a:Addr)(n:Nat):Obj->Obj
 | .cells c elem (lo,hi)=>.cells c elem (if lo==hi then(a.off,a.off+n)else(min lo a.off,max hi (a.off+n)))
 |o=>o
def Hp.setCell(σ:Hp)(a:Addr)(v:Value):Hp:=σ.modify a.block (yt a v)
def Hp.freeze(σ:Hp)(a:Addr)(n:Nat):Hp:=if n=0 then σ else σ.modify a.block (Fj a n)
def Bj:Mark->Bool
 | .extern _| .noRoom=>true
 |_=>false
def Bg:Obj->Bool
 | .cells .. =>false
 |_=>true
variable {α:Type}
def wpS(P:Program):Sem α->(α->Hp->Prop)->(Halt->Hp->Prop)->Hp->Prop
 | .pure a,Q,_,σ=>Q a σ
 | .load _ a k,Q,H,σ=>∃v,σ.cell? a=some v/\wpS P (k v) Q H σ
 | .store _ _ (.agg _) _,_,_,_| .store _ _ (.tuple _) _,_,_,_=>False
 | .store _ a v k,Q,H,σ=>(∃u,σ.cell? a=some u)/\σ.frozen? a=false/\wpS P k Q H (σ.setCell a v)
 | .new o k,Q,H,σ=>∀b,σ.f b=none->wpS P (k b) Q H (σ.set b o)
 | .shape r k,Q,H,σ=>(σ.f r).isSome=true/\wpS P (k (σ.shape? r)) Q H σ
 | .freeze a n k,Q,H,σ=>(σ.f a.block).isSome=true/\wpS P k Q H (σ.freeze a n)
 | .frozen a k,Q,H,σ=>(σ.f a.block).isSome=true/\wpS P (k (σ.frozen? a)) Q H σ
 | .getObj r k,Q,H,σ=>∃o,σ.f r=some o/\Bg o=true/\wpS P (k o) Q H σ
 | .setObj r o k,Q,H,σ=>∃o',σ.f r=some o'/\Bg o'=true/\wpS P k Q H (σ.set r o)
 | .choose q k,Q,H,σ=>if q.forced then wpS P (k 0) Q H σ else∀t,wpS P (k (q.cut t)) Q H σ
 | .sys _ _,_,_,_=>False
 | .program k,Q,H,σ=>wpS P (k P) Q H σ
 | .mark m k,Q,H,σ=>Bj m=true/\wpS P k Q H σ
 | .halt h,_,H,σ=>H h σ
variable {P:Program}{H:Halt->Hp->Prop}
def MW{Q Q':α->Hp->Prop}{H':Halt->Hp->Prop}(hq:∀a σ,Q a σ->Q' a σ)(hh:∀h σ,H h σ->H' h σ):
 ∀(s:Sem α) (σ:Hp),wpS P s Q H σ->wpS P s Q' H' σ:=by
 intro s
 induction s with
 |pure a=>exactλσ h=>hq _ _ h
 |load m a k ih=>exactλσ ⟨v,hv,h⟩=>⟨v,hv,ih v σ h⟩
 |store m a v k ih=>
  intro σ h
  cases v<;>first|exact h.elim|exact⟨h.1,h.2.1,ih _ h.2.2⟩
 |new o k ih=>exactλσ h b hb=>ih _ _ (h b hb)
 |shape r k ih=>exactλσ h=>⟨h.1,ih _ _ h.2⟩
 |freeze a n k ih=>exactλσ h=>⟨h.1,ih _ h.2⟩
 |frozen a k ih=>exactλσ h=>⟨h.1,ih _ _ h.2⟩
 |getObj r k ih=>exactλσ ⟨o,ho,hc,h⟩=>⟨o,ho,hc,ih _ _ h⟩
 |setObj r o k ih=>exactλσ ⟨o',ho,hc,h⟩=>⟨o',ho,hc,ih _ h⟩
 |choose q k ih=>
  intro σ h;unfold wpS at h|-;split
  ·rename_i hf;rw[if_pos hf]at h;exact ih _ _ h
  ·rename_i hf;rw[if_neg hf]at h;exactλt=>ih _ _ (h t)
 |sys c k ih=>exactλσ h=>h.elim
 |program k ih=>exactλσ h=>ih _ _ h
 |mark m k ih=>exactλσ h=>⟨h.1,ih _ h.2⟩
 |halt h=>exactλσ x=>hh _ _ x
def ap9{O:Type}{Q:O->Hp->Prop}(f:α->Sem O):
 ∀(s:Sem α) (σ:Hp),wpS P s (λa σ=>wpS P (f a) Q H σ) H σ->wpS P (s.bind f) Q H σ:=by
 intro s
 induction s with
 |pure a=>exactλσ h=>h
 |load m a k ih=>exactλσ ⟨v,hv,h⟩=>⟨v,hv,ih v σ h⟩
 |store m a v k ih=>
  intro σ h
  cases v<;>first|exact h.elim|exact⟨h.1,h.2.1,ih _ h.2.2⟩
 |new o k ih=>exactλσ h b hb=>ih _ _ (h b hb)
 |shape r k ih=>exactλσ h=>⟨h.1,ih _ _ h.2⟩
 |freeze a n k ih=>exactλσ h=>⟨h.1,ih _ h.2⟩
 |frozen a k ih=>exactλσ h=>⟨h.1,ih _ _ h.2⟩
 |getObj r k ih=>exactλσ ⟨o,ho,hc,h⟩=>⟨o,ho,hc,ih _ _ h⟩
 |setObj r o k ih=>exactλσ ⟨o',ho,hc,h⟩=>⟨o',ho,hc,ih _ h⟩
 |choose q k ih=>
  intro σ h;unfold Sem.bind;unfold wpS at h|-;split
  ·rename_i hf;rw[if_pos hf]at h;exact ih _ _ h
  ·rename_i hf;rw[if_neg hf]at h;exactλt=>ih _ _ (h t)
 |sys c k ih=>exactλσ h=>h.elim
 |program k ih=>exactλσ h=>ih _ _ h
 |mark m k ih=>exactλσ h=>⟨h.1,ih _ h.2⟩
 |halt h=>exactλσ x=>x
def im(J:Nat->Prop)(n:Nat)(e:Event):Prop:=
 match e.loc with
 | .cell a=>¬J a.block/\a.block<n
 | .obj r=>¬J r/\r<n
 | .mark m=>Bj m=true
 |_=>False
variable {J:Nat->Prop}
def im.mono{n n':Nat}(h:n<=n'){e:Event}(he:im J n e):im J n' e:=by
 unfold im at he|-
 cases hl:e.loc<;>rw[hl]at he<;>first|exact he|exact⟨he.1,by have:=he.2;omega⟩
structure Kept (J:Nat->Prop) (w w':World):Prop where
 hidden:∀b,J b->w'.heap[b]? =w.heap[b]?
 os:w'.os=w.os
 tape:w'.tape=w.tape
 output:w'.output=w.output
 tv:w.heap.size<=w'.heap.size
def Kept.refl(J:Nat->Prop)(w:World):Kept J w w:=⟨λ_ _=>rfl,rfl,rfl,rfl,Nat.le_refl _⟩
def Kept.trans {J:Nat->Prop}{a b c:World}(h:Kept J a b)(k:Kept J b c):Kept J a c:=
 ⟨λx hx=>(k.hidden x hx).trans (h.hidden x hx),k.os.trans h.os,k.tape.trans h.tape,k.output.trans h.output,Nat.le_trans h.tv k.tv⟩
variable {w:World}{b:Nat}{o:Obj}
def cN.rJ(h:cN J w σ)(hb:σ.f b=some o):¬J b:=λhj=>by rw[h.fA b hj]at hb;cases hb
def cN.lt(h:cN J w σ)(hb:σ.f b=some o):b<w.heap.size:=(Array.getElem?_eq_some_iff.1 (h.heap hb)).1
def cN.ik(h:cN J w σ)(k:τ.le σ):cN J w τ:=by
 refine⟨λhb=>h.heap (k _ _ hb),λb hj=>?_,h.low⟩
 cases hb:τ.f b with
 |none=>rfl
 |some o=>have:=k b o hb;rw[h.fA b hj]at this;cases this
def Ai{a:Addr}{v:Value}(h:σ.cell? a=some v):∃c e z,σ.f a.block=some (.cells c e z)/\a.spot=none/\c[a.off]? =some v:=by
 unfold Hp.cell? at h;split at h
 ·rename_i c e z hb;refine⟨c,e,z,hb,?_⟩;by_cases hs:a.spot.isSome=true
  ·rw[if_pos hs]at h;cases h
  ·rw[if_neg hs]at h;exact⟨aZ hs,h⟩
 ·cases h
def cN.cell (h:cN J w σ){a:Addr}{v:Value}(hc:σ.cell? a=some v):w.cell? a=some v:=by obtain⟨c,e,z,hb,hs,hv⟩:=Ai hc;simp[World.cell?,h.heap hb,hs,hv]
def cN.I6(h:cN J w σ){a:Addr}(hb:σ.f a.block=some o):w.frozen? a=σ.frozen? a:=by simp only[World.frozen?,Hp.frozen?,h.heap hb,hb];rfl
def cN.Up(h:cN J w σ){r:Nat}(hb:σ.f r=some o):w.shape? r=σ.shape? r:=by simp only[World.shape?,Hp.shape?,h.heap hb,hb];rfl
def cN.modify (h:cN J w σ){b:Nat}{o:Obj}(hb:σ.f b=some o)(g:Obj->Obj):cN J {w with heap:=w.heap.modify b g} (σ.modify b g):=by
 refine⟨λ{x o'} hx=>?_,λx hx=>?_,λx hx=>by simpa using h.low x hx⟩
 ·simp only[Hp.modify]at hx;by_cases e:x=b
  ·subst e;rw[if_pos rfl,hb]at hx;rw[Array.getElem?_modify,if_pos rfl,h.heap hb];exact hx
  ·rw[if_neg e]at hx;rw[Array.getElem?_modify,if_neg (λz=>e z.symm)];exact h.heap hx
 ·simp only[Hp.modify];by_cases e:x=b
  ·subst e;exact absurd hx (h.rJ hb)
  ·rw[if_neg e];exact h.fA x hx
def Kept.modify(h:cN J w σ)(hb:σ.f b=some o)(g:Obj->Obj):Kept J w {w with heap:=w.heap.modify b g}:=by refine⟨λx hx=>?_,rfl,rfl,rfl,al⟩;have:x≠b:=λe=>h.rJ hb (e▸hx);simp only[Array.getElem?_modify];rw[if_neg (λz=>this z.symm)]
def cN.fresh(h:cN J w σ):σ.f w.heap.size=none:=by
 cases hb:σ.f w.heap.size with
 |none=>rfl
 |some o=>exact absurd (h.lt hb) (Nat.lt_irrefl _)
def cN.push(h:cN J w σ)(o:Obj):cN J {w with heap:=w.heap.push o} (σ.set w.heap.size o):=by
 refine⟨λ{x o'} hx=>?_,λx hx=>?_,λx hx=>by have:=h.low x hx;simp;omega⟩
 ·simp only[Hp.set]at hx;by_cases e:x=w.heap.size
  ·subst e;rw[if_pos rfl]at hx;simpa using hx
  ·rw[if_neg e]at hx;have:=h.lt hx;simp only[Array.getElem?_push];rw[if_neg e];exact h.heap hx
 ·simp only[Hp.set];rw[if_neg (by have:=h.low x hx;omega)];exact h.fA x hx
def Kept.push(h:cN J w σ)(o:Obj):Kept J w {w with heap:=w.heap.push o}:=by refine⟨λx hx=>?_,rfl,rfl,rfl,al⟩;have:=h.low x hx;simp only[Array.getElem?_push];rw[if_neg aa]
def cN.setObj(h:cN J w σ)(hb:σ.f b=some o)(o':Obj):cN J {w with heap:=w.heap.setIfInBounds b o'} (σ.set b o'):=by
 have bj:b<w.heap.size:=h.lt hb;refine⟨λ{x bU} hx=>?_,λx hx=>?_,λx hx=>by simpa using h.low x hx⟩
 ·simp only[Hp.set]at hx;by_cases e:x=b
  ·subst e;rw[if_pos rfl]at hx;rw[<-hx];exact Array.getElem?_setIfInBounds_self_of_lt bj
  ·rw[if_neg e]at hx;show(w.heap.setIfInBounds b o')[x]? =_;rw[Array.getElem?_setIfInBounds_ne (λz=>e z.symm)];exact h.heap hx
 ·simp only[Hp.set];by_cases e:x=b
  ·subst e;exact absurd hx (h.rJ hb)
  ·rw[if_neg e];exact h.fA x hx
def Kept.setObj(h:cN J w σ)(hb:σ.f b=some o)(o':Obj):Kept J w {w with heap:=w.heap.setIfInBounds b o'}:=by refine⟨λx hx=>?_,rfl,rfl,rfl,al⟩;have:x≠b:=λe=>h.rJ hb (e▸hx);exact Array.getElem?_setIfInBounds_ne (λz=>this z.symm)
def cN.drew(h:cN J w σ)(d:Nat):cN J {w with drawn:=d} σ:=⟨h.heap,h.fA,h.low⟩
def mv(J:Nat->Prop)(Q:α->Hp->Prop)(H:Halt->Hp->Prop)(w:World)(es:Array Event)(r:Result α×Array Event):Prop:=
 ∃(w':World) (ae:Hp) (bX:Array Event),r.2=es++bX/\cN J w' ae/\Kept J w w'/\(∀e∈bX,im J w'.heap.size e)/\
  ((∃a,r.1=.ok a w'/\Q a ae)\/(∃h,r.1=.halt h w'/\H h ae))
variable {Q:α->Hp->Prop}{w₁:World}{es:Array Event}{r:Result α×Array Event}
def mv.step{es₁:Array Event}(hk:Kept J w w₁)(he:∀e∈es₁,im J w₁.heap.size e)(h:mv J Q H w₁ (es++es₁) r):mv J Q H w es r:=by
 obtain⟨w',ae,bX,e1,hs,dX,fU,hr⟩:=h;refine⟨w',ae,es₁++bX,by rw[e1,Array.append_assoc],hs,hk.trans dX,λe hm=>?_,hr⟩;rcases Array.mem_append.1 hm with hm|hm
 ·exact(he e hm).mono dX.tv
 ·exact fU e hm
def mv.step0(hk:Kept J w w₁)(h:mv J Q H w₁ es r):mv J Q H w es r:=
 mv.step (es₁:=#[]) hk al (aZ h)
theorem push_eq_append(a:Array α)(x:α):a.push x=a++ #[x]:=al
theorem om:
 ∀(s:Sem α) (w:World) (σ:Hp) (es:Array Event),wpS P s Q H σ->cN J w σ->mv J Q H w es (s.runT P w es):=by
 intro s
 induction s with
 |pure a=>exactλw σ es h hs=>⟨w,σ,#[],by simp[Sem.runT],hs,.refl J w,al,.inl ⟨a,rfl,h⟩⟩
 |load m a k ih=>
  rintro w σ es ⟨v,hv,h⟩ hs;have hw:=hs.cell hv;obtain⟨c,e,z,hb,_,_⟩:=Ai hv;unfold Sem.runT;simp only[hw];rw[push_eq_append];refine mv.step (.refl J w) (λx hx=>?_) (ih v w σ _ h hs);simp at hx;subst hx;exact⟨hs.rJ hb,hs.lt hb⟩
 |store m a v k ih=>
  intro w σ es h hs
  have key:(∃u,σ.cell? a=some u)/\σ.frozen? a=false/\wpS P k Q H (σ.setCell a v)->(∀cs,v≠.agg cs)->(∀cs,v≠.tuple cs)->mv J Q H w es ((Sem.store m a v k).runT P w es):=by
   rintro⟨⟨u,hu⟩,hz,h⟩ h1 h2;have hw:=hs.cell hu;obtain⟨c,e,z,hb,_,_⟩:=Ai hu;have gP:w.frozen? a=false:=by rw[hs.I6 hb];exact hz
   have e1:(Sem.store m a v k).runT P w es=k.runT P (w.setCell a v) (es.push ⟨.cell a,true,m== .atomic⟩):=by cases v<;>first|exact absurd rfl (h1 _)|exact absurd rfl (h2 _)|simp[Sem.runT,hw,gP]
   rw[e1,push_eq_append];have cQ:cN J (w.setCell a v) (σ.setCell a v):=hs.modify hb (yt a v);have hk:Kept J w (w.setCell a v):=Kept.modify hs hb (yt a v);refine mv.step hk (λx hx=>?_) (ih (w.setCell a v) (σ.setCell a v) _ h cQ);simp at hx;subst hx;exact⟨hs.rJ hb,Nat.lt_of_lt_of_le (hs.lt hb) hk.tv⟩
  cases v<;>first|exact h.elim|exact key h al al
 |new o k ih=>
  intro w σ es h hs;unfold Sem.runT;exact mv.step0 (Kept.push hs o) (ih _ _ _ _ (h _ hs.fresh) (hs.push o))
 |shape r k ih=>
  rintro w σ es ⟨hv,h⟩ hs;obtain⟨o,ho⟩:=Option.isSome_iff_exists.1 hv;unfold Sem.runT;rw[hs.Up ho];exact ih _ _ _ _ h hs
 |freeze a n k ih=>
  rintro w σ es ⟨hv,h⟩ hs;obtain⟨o,ho⟩:=Option.isSome_iff_exists.1 hv;unfold Sem.runT;by_cases hn:n=0
  ·have e1:w.freeze a n=w:=by simp[World.freeze,hn]
   have e2:σ.freeze a n=σ:=by simp[Hp.freeze,hn]
   rw[e1];rw[e2]at h;exact ih _ _ _ h hs
  ·have e1:w.freeze a n={w with heap:=w.heap.modify a.block (Fj a n)}:=by simp only[World.freeze,hn,if_false];rfl
   have e2:σ.freeze a n=σ.modify a.block (Fj a n):=by simp[Hp.freeze,hn]
   rw[e1];rw[e2]at h;exact mv.step0 (Kept.modify hs ho _) (ih _ _ _ h (hs.modify ho _))
 |frozen a k ih=>
  rintro w σ es ⟨hv,h⟩ hs;obtain⟨o,ho⟩:=Option.isSome_iff_exists.1 hv;unfold Sem.runT;rw[hs.I6 ho];exact ih _ _ _ _ h hs
 |getObj r k ih=>
  rintro w σ es ⟨o,ho,hc,h⟩ hs;have hw:=hs.heap ho
  have e1:(Sem.getObj r k).runT P w es=(k o).runT P w (es.push ⟨.obj r,false,o.isChan⟩):=by cases o<;>first|(simp[Bg]at hc;done)|(simp only[Sem.runT,hw])
  rw[e1,push_eq_append];refine mv.step (.refl J w) (λx hx=>?_) (ih _ _ _ _ h hs);simp at hx;subst hx;exact⟨hs.rJ ho,hs.lt ho⟩
 |setObj r o k ih=>
  rintro w σ es ⟨o',ho,hc,h⟩ hs;have hw:=hs.heap ho
  have e1:(Sem.setObj r o k).runT P w es=k.runT P {w with heap:=w.heap.setIfInBounds r o} (es.push ⟨.obj r,true,o.isChan⟩):=by cases o'<;>first|(simp[Bg]at hc;done)|(simp only[Sem.runT,hw])
  rw[e1,push_eq_append];refine mv.step (Kept.setObj hs ho o) (λx hx=>?_) (ih _ _ _ h (hs.setObj ho o));simp at hx;subst hx;refine⟨hs.rJ ho,?_⟩;have:=hs.lt ho;simpa using this
 |choose q k ih=>
  intro w σ es h hs;unfold wpS at h;unfold Sem.runT;split
  ·rename_i hf;rw[if_pos hf]at h;exact ih _ _ _ _ h hs
  ·rename_i hf;rw[if_neg hf]at h;exact mv.step0 (w₁:={w with drawn:=w.drawn+1}) ⟨λ_ _=>rfl,rfl,rfl,rfl,Nat.le_refl _⟩ (ih _ _ _ _ (h _) (hs.drew _))
 |sys c k ih=>exactλw σ es h=>h.elim
 |program k ih=>exactλw σ es h hs=>ih _ w σ es h hs
 |mark m k ih=>
  rintro w σ es ⟨hm,h⟩ hs;unfold Sem.runT;rw[push_eq_append];refine mv.step (.refl J w) (λx hx=>?_) (ih _ _ _ h hs);simp at hx;subst hx;exact hm
 |halt h=>exactλw σ es x hs=>⟨w,σ,#[],by simp[Sem.runT],hs,.refl J w,al,.inr ⟨h,rfl,x⟩⟩
theorem bp{a c d:Nat}{x y:Option Obj}(h:σ.f c=x)(k:σ.f d=y)(e:x=y->False:=by intro e;cases e)(o:(a=c/\b=d)\/(a=d/\b=c):=by first|exact .inl ⟨rfl,rfl⟩|exact .inr ⟨rfl,rfl⟩):a≠b:=λz=>e (by rcases o with⟨u,v⟩|⟨u,v⟩<;>subst u<;>subst v<;>rw[<-h,<-k,z])
theorem ao:σ.le σ:=Hp.le_refl _
section
open Go.Conc
def gM(P:Program)(main:Bool)(g:Goroutine)(σ:Hp)(X:Goroutine->Hp->Prop):Prop:=
 ∀J w,cN J w σ->(stepG P main g w).goes λg' w' es=>∃ae,cN J w' ae/\Kept J w w'/\(∀e∈es,im J w'.heap.size e)/\g'.status=.running/\X g' ae
structure Env (P:Program) where
 main:Bool
 st:Goroutine->Hp->Machine->Trace->Prop
 ik:∀{g σ τ m T},st g σ m T->τ.le σ->st g τ m T
 own:∀g σ m T (X:Goroutine->Hp->Prop),st g σ m T->g.status=.running->gM P main g σ X->
  ∃N m' T' g' ae,runNT P N m T=(.next m',T')/\st g' ae m' T'/\g'.status=.running/\X g' ae
section
variable {J:Nat->Prop}{w:World}{σ:Hp}
variable {P:Program}(E:Env P)
def ax (g:Goroutine)(σ:Hp)(S:Goroutine->Hp->Prop):Prop:=
 ∀m T,E.st g σ m T->∃N m' T' g' ae,runNT P N m T=(.next m',T')/\E.st g' ae m' T'/\S g' ae
variable {E}
theorem ax.here {g:Goroutine}{σ:Hp}{S:Goroutine->Hp->Prop}(h:S g σ):ax E g σ S:=
 λm T hm=>⟨0,m,T,g,σ,rfl,hm,h⟩
theorem ax.bind {g:Goroutine}{σ:Hp}{S S':Goroutine->Hp->Prop}(h:ax E g σ S)(k:∀g' ae,S g' ae->ax E g' ae S'):ax E g σ S':=by intro m T hm;obtain⟨N,m',T',g',ae,h1,h2,h3⟩:=h m T hm;obtain⟨N',oT,ov,Cr,fZ,k1,k2,k3⟩:=k g' ae h3 m' T' h2;exact⟨N+N',oT,ov,Cr,fZ,runNT_then h1 k1,k2,k3⟩
theorem ax.ik {g:Goroutine}{σ τ:Hp}{S:Goroutine->Hp->Prop}(h:ax E g τ S)(k:τ.le σ):ax E g σ S:=
 λm T hm=>h m T (E.ik hm k)
theorem ax.mono {g:Goroutine}{σ:Hp}{S S':Goroutine->Hp->Prop}(h:ax E g σ S)(k:∀g' ae,S g' ae->S' g' ae):ax E g σ S':=
 h.bind λg' ae x=>ax.here (k g' ae x)
theorem ax.step {g:Goroutine}{σ:Hp}{S:Goroutine->Hp->Prop}{X:Goroutine->Hp->Prop}(hr:g.status=.running)(h:gM P E.main g σ X)(k:∀g' ae,X g' ae->ax E g' ae S):ax E g σ S:=by intro m T hm;obtain⟨N,m',T',g',ae,h1,h2,_,h3⟩:=E.own g σ m T X hm hr h;obtain⟨N',oT,ov,Cr,fZ,k1,k2,k3⟩:=k g' ae h3 m' T' h2;exact⟨N+N',oT,ov,Cr,fZ,runNT_then h1 k1,k2,k3⟩
theorem gM.ctl {main:Bool}{g g':Goroutine}{σ:Hp}{X:Goroutine->Hp->Prop}(h:∀w,stepG P main g w=.go g' w)(hr:g'.status=.running)(hX:X g' σ):gM P main g σ X:=by intro J w hs;rw[h w];exact⟨σ,hs,.refl J w,al,hr,hX⟩
theorem ax.ctl {g g':Goroutine}{σ:Hp}{S:Goroutine->Hp->Prop}(h:∀w,stepG P E.main g w=.go g' w)(hr:g.status=.running)(ig:g'.status=.running)(k:ax E g' σ S):ax E g σ S:=
 ax.step (X:=λsi qV=>si=g'/\qV=σ) hr (gM.ctl h ig ⟨rfl,rfl⟩) (λ_ _ ⟨e1,e2⟩=>by subst e1;subst e2;exact k)
theorem gM.mono {main:Bool}{g:Goroutine}{σ:Hp}{X Y:Goroutine->Hp->Prop}(h:gM P main g σ X)(k:∀g' ae,X g' ae->Y g' ae):gM P main g σ Y:=by
 intro J w hs;have:=h J w hs
 cases hg:stepG P main g w<;>rw[hg]at this<;>first|exact this.elim|skip
 obtain⟨ae,h1,h2,h3,h4,h5⟩:=this;exact⟨ae,h1,h2,h3,h4,k _ _ h5⟩
end
def pd(V:Value->Hp->Prop)(D:Deferred->Hp->Prop)(C:FuncId->Array Value->Hp->Prop):Next->Hp->Prop
 | .value v,σ=>V v σ
 | .skip,σ=>V undef σ
 | .defer d,σ=>D d σ
 | .enter f args,σ=>C f args σ
 |_,_=>False
def rP(Pn:Value->Hp->Prop):Halt->Hp->Prop
 | .panic v,σ=>Pn v σ
 |_,_=>False
variable {main:Bool}{b:Frame}{a:Act}{k:List Item}{cs:List Frame}
theorem Mq{ops:Array Oper}{i:Nat}{rest:List Nat}{o:Oper}(ho:ops[i]? =some o)(hw:Region.wanted o (yielded ops a.tmps)=true)(hk:b.kind≠.early){V:Value->Hp->Prop}{D:Deferred->Hp->Prop}{C:FuncId->Array Value->Hp->Prop}{Pn:Value->Hp->Prop}(h:wpS P (execOp a.eval o) (pd V D C) (rP Pn) σ):
 gM P main (G (b.at a (.inRegion ops (i::rest)::k)) cs) σ λg ae=>
  (∃v,V v ae/\g=G (b.at (a.put o.dst v) (.inRegion ops rest::k)) cs)\/
  (∃d,D d ae/\g=G (b.at ({a with defers:=d::a.defers}.put o.dst undef) (.inRegion ops rest::k)) cs)\/
  (∃f args,C f args ae/\g=G (Frame.enter P f args .normal) (b.at a (.inRegion ops (i::rest)::k)::cs))\/
  (∃v,Pn v ae/\g=G ((b.at a (.inRegion ops (i::rest)::k)).raise [{v,recovered:=false}]) cs):=by
 intro J w hs
 have eV:∀v,(b.at a (.inRegion ops (i::rest)::k)).finish v=b.at (a.put o.dst v) (.inRegion ops rest::k):=by intro v;rw[Frame.finish_at,ho];rfl
 have nP:(b.kind==CallKind.early)=false:=aZ hk;obtain⟨w',ae,bX,e1,cQ,dX,fU,hr⟩:=om (execOp a.eval o) w σ #[] h hs;have gm:((execOp a.eval o).runT P w #[]).2=bX:=by simpa using e1
 rw[stepG_oper ho hw];have ix:∀e∈seen P b.fn bX,im J w'.heap.size e:=λe he=>fU e (mem_seen he);rcases hr with⟨nx,hn,hq⟩|⟨hh,hn,hq⟩
 ·have e2:(execOp a.eval o).runT P w #[]=(.ok nx w',bX):=Prod.ext hn gm
  cases nx<;>first|exact hq.elim|skip
  ·rename_i v
   have:stepG.apply P true (b.at a (.inRegion ops (i::rest)::k)) cs none (execOp a.eval o) w=.go (G (b.at (a.put o.dst v) (.inRegion ops rest::k)) cs) w' (seen P b.fn bX):=by rw[<-eV];simp[stepG.apply,-Sem.runT_eq,e2,G,Frame.at,nP,GStep.after]
   rw[this];exact⟨ae,cQ,dX,ix,rfl,.inl ⟨v,hq,rfl⟩⟩
  ·have:stepG.apply P true (b.at a (.inRegion ops (i::rest)::k)) cs none (execOp a.eval o) w=.go (G (b.at (a.put o.dst undef) (.inRegion ops rest::k)) cs) w' (seen P b.fn bX):=by rw[<-eV];simp[stepG.apply,-Sem.runT_eq,e2,G,Frame.at,nP,GStep.after]
   rw[this];exact⟨ae,cQ,dX,ix,rfl,.inl ⟨undef,hq,rfl⟩⟩
  ·rename_i f args
   have:stepG.apply P true (b.at a (.inRegion ops (i::rest)::k)) cs none (execOp a.eval o) w=.go (G (Frame.enter P f args .normal) (b.at a (.inRegion ops (i::rest)::k)::cs)) w' (seen P b.fn bX):=by simp[stepG.apply,-Sem.runT_eq,e2,G,Frame.at,nP,GStep.after]
   rw[this];exact⟨ae,cQ,dX,ix,rfl,.inr (.inr (.inl ⟨f,args,hq,rfl⟩))⟩
  ·rename_i d
   have CY:({b.at a (.inRegion ops (i::rest)::k)with defers:=d::a.defers}:Frame).finish undef=b.at ({a with defers:=d::a.defers}.put o.dst undef) (.inRegion ops rest::k):=by have:=Frame.finish_at b {a with defers:=d::a.defers} ops i rest k undef;rw[ho]at this;exact this
   have:stepG.apply P true (b.at a (.inRegion ops (i::rest)::k)) cs none (execOp a.eval o) w=.go (G (b.at ({a with defers:=d::a.defers}.put o.dst undef) (.inRegion ops rest::k)) cs) w' (seen P b.fn bX):=by rw[<-CY];simp[stepG.apply,-Sem.runT_eq,e2,G,Frame.at,nP,GStep.after]
   rw[this];exact⟨ae,cQ,dX,ix,rfl,.inr (.inl ⟨d,hq,rfl⟩)⟩
 ·have e2:(execOp a.eval o).runT P w #[]=(.halt hh w',bX):=Prod.ext hn gm
  cases hh<;>first|exact hq.elim|skip
  rename_i v
  have:stepG.apply P true (b.at a (.inRegion ops (i::rest)::k)) cs none (execOp a.eval o) w=.go (G ((b.at a (.inRegion ops (i::rest)::k)).raise [{v,recovered:=false}]) cs) w' (seen P b.fn bX):=by simp[stepG.apply,-Sem.runT_eq,e2,G,Frame.at,nP,GStep.after]
  rw[this];exact⟨ae,cQ,dX,ix,rfl,.inr (.inr (.inr ⟨v,hq,rfl⟩))⟩
abbrev av:=Nat->Value
def up(ρ:av)(d:Nat)(v:Value)(t:Nat):Value:=if t=d then v else ρ t
def aB(ρ:av):Option Tmp->Value->av
 |some d,v=>up ρ d v
 |none,_=>ρ
def oX(N:Nat):Option Tmp->Bool
 |some d=>decide (d<N)
 |none=>true
def ak(ρ:av):Operand->Value
 | .tmp t=>ρ t
 | .const v=>v
 | .global g=>pV g
 | .func f=>.func (.func f) #[] #[]
def B6:Value->Option Bool
 | .bool b=>some b
 |_=>none
def gK(N:Nat)(ops:Array Oper)(ρ:av)(j:Nat):Option Bool:=
 match(ops[j]?).bind (·.dst)with
 |some d=>if d<N then B6 (ρ d)else none
 |none=>none
structure cJ (N:Nat) (a:Act) (ρ:av) (ds:List Deferred):Prop where
 size:a.tmps.size=N
 defers:a.defers=ds
 tmps:∀t,a.tmps.getD t undef=ρ t
variable {N:Nat}{ρ:av}{ds:List Deferred}
theorem cJ.eval (h:cJ N a ρ ds):a.eval=ak ρ:=by
 funext x
 cases x<;>simp only[Act.eval,ak]
 exact h.tmps _
theorem cJ.xX(h:cJ N a ρ ds)(ops:Array Oper):yielded ops a.tmps=gK N ops ρ:=by
 funext j
 unfold yielded gK
 cases(ops[j]?).bind (·.dst)with
 |none=>rfl
 |some d=>
  simp only[Option.bind_some];by_cases hd:d<N
  ·rw[if_pos hd];have jm:d<a.tmps.size:=by rw[h.size];exact hd
   have:=h.tmps d;rw[Array.getD_eq_getD_getElem?,Array.getElem?_eq_getElem jm,Option.getD_some]at this;rw[Array.getElem?_eq_getElem jm,this]
   cases ρ d<;>rfl
  ·rw[if_neg hd];rw[Array.getElem?_eq_none (by rw[h.size];exact Nat.le_of_not_lt hd)]
theorem cJ.put (h:cJ N a ρ ds){dst:Option Tmp}(hd:oX N dst=true)(v:Value):cJ N (a.put dst v) (aB ρ dst v) ds:=by
 cases dst with
 |none=>exact h
 |some d=>
  have jm:d<N:=of_decide_eq_true hd;refine⟨by simp[Act.put,h.size],h.defers,λt=>?_⟩;simp only[Act.put,aB,up];have:=h.tmps t;rw[Array.getD_eq_getD_getElem?]at this|-;by_cases e:t=d
  ·subst e;rw[if_pos rfl,Array.getElem?_setIfInBounds_self_of_lt (by rw[h.size];exact jm)];rfl
  ·rw[if_neg e,Array.getElem?_setIfInBounds_ne (λz=>e z.symm)];exact this
theorem cJ.defer(h:cJ N a ρ ds)(d:Deferred):cJ N {a with defers:=d::a.defers} ρ (d::ds):=⟨h.size,by simp[h.defers],h.tmps⟩
inductive Fin where
 |returned (v:Value)
 |panicked (chain:List PanicEntry)
inductive Ex where
 |normal
 |exit (id:Nat)
 |ret
 |panic (chain:List PanicEntry)
def Bt(fn:Func)(ρ:av):Sem Value:=do
 let vs<-fn.results.mapM λ
  | .tmp t=>pure (ρ t)
  | .cell a t=>do loadVar t (<-asAddr (ρ a))
 pure (if h:vs.size=1 then vs[0]else .tuple vs)
def Leaving(P:Program)(fr:Frame)(σ:Hp):Fin->Prop
 | .returned v=>fr.mode=.returning/\fr.defers=[]/\fr.kind=.normal/\∃fn,P.funcs[fr.fn]? =some fn/\wpS P (results fn fr.tmps) (λv' ae=>v'=v/\ae=σ) (λ_ _=>False) σ
 | .panicked chain=>fr.mode=.panicking chain/\fr.defers=[]/\∃fn,P.funcs[fr.fn]? =some fn
section
variable {σ:Hp}
variable {P:Program}(E:Env P)
def ay (f:FuncId)(args:Array Value)(σ:Hp)(R:Fin->Hp->Prop):Prop:=
 ∀cs,ax E (G (Frame.enter P f args .normal) cs) σ λg ae=>∃e fr,g=G fr cs/\fr.fn=f/\Leaving P fr ae e/\R e ae
theorem ay.mono {E:Env P}{f:FuncId}{args:Array Value}{σ:Hp}{R R':Fin->Hp->Prop}(h:ay E f args σ R)(k:∀e ae,R e ae->R' e ae):ay E f args σ R':=
 λcs=>(h cs).mono λ_ _ ⟨e,fr,h1,h0,h2,h3⟩=>⟨e,fr,h1,h0,h2,k _ _ h3⟩
abbrev Rv (v:Value)(σ:Hp):Fin->Hp->Prop:=λe τ=>e=.returned v/\τ=σ
abbrev Post:=Ex->av->List Deferred->Hp->Prop
def xI (nx:Value->Hp->Prop)(pn:List PanicEntry->Hp->Prop):Fin->Hp->Prop
 | .returned v,σ=>nx v σ
 | .panicked ch,σ=>pn ch σ
def wpOp (o:Oper)(ρ:av)(ds:List Deferred)(σ:Hp)(nx:av->List Deferred->Hp->Prop)(pn:List PanicEntry->Hp->Prop):Prop:=
 wpS P (execOp (ak ρ) o) (pd (λv ae=>nx (aB ρ o.dst v) ds ae) (λd ae=>nx (aB ρ o.dst undef) (d::ds) ae)
  (λf args ae=>ay E f args ae (xI (λv fZ=>nx (aB ρ o.dst v) ds fZ) pn)))
  (rP λv ae=>pn [{v,recovered:=false}] ae) σ
end
variable {E:Env P}{fr c:Frame}{v:Value}{S:Goroutine->Hp->Prop}
theorem aii(h:Leaving P fr σ (.returned v))(k:ax E (G (c.finish v) cs) σ S):ax E (G fr (c::cs)) σ S:=by
 obtain⟨hm,hd,hk,fn,hf,hr⟩:=h;refine ax.step (X:=λsi qV=>si=G (c.finish v) cs/\qV=σ) rfl (λJ w hs=>?_) (λ_ _ ⟨e1,e2⟩=>by subst e1;subst e2;exact k);obtain⟨w',ae,bX,e1,cQ,dX,fU,eN⟩:=om (results fn fr.tmps) w σ #[] hr hs;rcases eN with⟨v',hn,rfl,rfl⟩|⟨_,_,hf⟩
 ·have gm:((results fn fr.tmps).runT P w #[]).2=bX:=by simpa using e1
  have e2:(results fn fr.tmps).runT P w #[]=(.ok v' w',bX):=Prod.ext hn gm
  have:stepG P E.main (G fr (c::cs)) w=.go (G (c.finish v') cs) w' (seen P fr.fn bX):=by simp[G,stepG,hm,unwind,hd,hf,-Sem.runT_eq,e2,doReturn,hk,GStep.after]
  rw[this];exact⟨_,cQ,dX,λe he=>fU e (mem_seen he),rfl,rfl,rfl⟩
 ·exact hf.elim
theorem aih{chain:List PanicEntry}(h:Leaving P fr σ (.panicked chain))(k:ax E (G (c.raise chain) cs) σ S):ax E (G fr (c::cs)) σ S:=by obtain⟨hm,hd,fn,hf⟩:=h;refine ax.ctl (g':=G (c.raise chain) cs) (λw=>?_) rfl rfl k;simp[G,stepG,hm,unwind,hd,Frame.catches,hf]
theorem ay.run{f:FuncId}{args:Array Value}{R:Fin->Hp->Prop}(h:ay E f args σ R)(hv:∀v ae,R (.returned v) ae->ax E (G (c.finish v) cs) ae S)(hp:∀ch ae,R (.panicked ch) ae->ax E (G (c.raise ch) cs) ae S):ax E (G (Frame.enter P f args .normal) (c::cs)) σ S:=by
 refine(h (c::cs)).bind ?_;rintro g ae ⟨e,fr,rfl,_,hl,hR⟩
 cases e with
 |returned v=>exact aii hl (hv v ae hR)
 |panicked ch=>exact aih hl (hp ch ae hR)
theorem bq(a:α):wpS P (pure a:Sem α) Q H σ=Q a σ:=rfl
variable {O:Type}{R:O->Hp->Prop}
theorem aH(s:Sem α)(f:α->Sem O):wpS P (s>>=f) R H σ=wpS P s (λa σ=>wpS P (f a) R H σ) H σ:=by
 apply propext;constructor
 ·show wpS P (s.bind f) R H σ->_
  induction s generalizing σ with
  |pure a=>exactλh=>h
  |load m a k ih=>exactλ⟨v,hv,h⟩=>⟨v,hv,ih v h⟩
  |store m a v k ih=>
   intro h
   cases v<;>first|exact h.elim|exact⟨h.1,h.2.1,ih h.2.2⟩
  |new o k ih=>exactλh b hb=>ih _ (h b hb)
  |shape r k ih=>exactλh=>⟨h.1,ih _ h.2⟩
  |freeze a n k ih=>exactλh=>⟨h.1,ih h.2⟩
  |frozen a k ih=>exactλh=>⟨h.1,ih _ h.2⟩
  |getObj r k ih=>exactλ⟨o,ho,hc,h⟩=>⟨o,ho,hc,ih _ h⟩
  |setObj r o k ih=>exactλ⟨o',ho,hc,h⟩=>⟨o',ho,hc,ih h⟩
  |choose q k ih=>
   intro h;unfold Sem.bind at h;unfold wpS at h|-;split
   ·rename_i hf;rw[if_pos hf]at h;exact ih _ h
   ·rename_i hf;rw[if_neg hf]at h;exactλt=>ih _ (h t)
  |sys c k ih=>exactλh=>h.elim
  |program k ih=>exactλh=>ih _ h
  |mark m k ih=>exactλh=>⟨h.1,ih h.2⟩
  |halt h=>exactλx=>x
 ·exact ap9 f s σ
theorem aqe(s:Sem α)(f:α->O):wpS P (f<$>s) R H σ=wpS P s (λa σ=>R (f a) σ) H σ:=aH s (λa=>pure (f a))
theorem zK{Q:Program->Hp->Prop}:wpS P program Q H σ=Q P σ:=rfl
theorem Vb(a:Addr)(m:Mode){Q:Value->Hp->Prop}:wpS P (load a m) Q H σ=∃v,σ.cell? a=some v/\Q v σ:=rfl
theorem xW(o:Obj){Q:Nat->Hp->Prop}:wpS P (newObj o) Q H σ=∀b,σ.f b=none->Q b (σ.set b o):=rfl
theorem oj(r:Nat){Q:Obj->Hp->Prop}:wpS P (getObj r) Q H σ=∃o,σ.f r=some o/\Bg o=true/\Q o σ:=rfl
theorem ta(r:Nat)(o:Obj){Q:Unit->Hp->Prop}:wpS P (setObj r o) Q H σ=∃o',σ.f r=some o'/\Bg o'=true/\Q () (σ.set r o):=rfl
theorem zL(r:Nat){Q:Option (TypeId×Nat)->Hp->Prop}:wpS P (shape r) Q H σ=((σ.f r).isSome=true/\Q (σ.shape? r) σ):=rfl
theorem HI(a:Addr){Q:Bool->Hp->Prop}:wpS P (frozen a) Q H σ=((σ.f a.block).isSome=true/\Q (σ.frozen? a) σ):=rfl
theorem Va(a:Addr)(n:Nat){Q:Unit->Hp->Prop}:wpS P (freeze a n) Q H σ=((σ.f a.block).isSome=true/\Q () (σ.freeze a n)):=rfl
theorem HH(q:Question){Q:Nat->Hp->Prop}:wpS P (choose q) Q H σ=if q.forced then Q 0 σ else∀t,Q (q.cut t) σ:=rfl
theorem MV(m:Mark){Q:Unit->Hp->Prop}:wpS P (mark m) Q H σ=(Bj m=true/\Q () σ):=rfl
theorem dZ(t:TypeId){Q:TypeDesc->Hp->Prop}:wpS P (underlying t) Q H σ=match P.underlying t with|some d=>Q d σ|none=>H (.stuck "no such type") σ:=by
 simp only[underlying,aH,zK]
 cases P.underlying t<;>rfl
theorem fQ(t:TypeId){Q:TypeInfo->Hp->Prop}:wpS P (typeInfo t) Q H σ=match P.info? t with|some i=>Q i σ|none=>H (.stuck "no such type") σ:=by
 simp only[typeInfo,aH,zK]
 cases P.info? t<;>rfl
def de:Value->Bool
 | .agg _| .tuple _=>false
 |_=>true
theorem aqf{Q:Unit->Hp->Prop}(a:Addr)(v:Value)(h:de v=true):
 wpS P (store a v) Q H σ=((∃u,σ.cell? a=some u)/\σ.frozen? a=false/\Q () (σ.setCell a v)):=by
 cases v<;>first|rfl|cases h
def dx(P:Program)(t:TypeId):Bool:=match P.underlying t with|some (.struct _)|some (.array _ _)=>true|_=>false
def dm(P:Program)(t:TypeId):Bool:=(P.underlying t).isSome&&(P.info? t).isSome
def cq(P:Program)(t:TypeId):Nat:=match P.info? t with|some i=>i.size|none=>0
def dq(P:Program)(t:TypeId):Option Value:=match P.info? t with|some i=>i.zero|none=>none
def bH(P:Program)(s:TypeId)(f:Nat):Option Nat:=
 match P.underlying s with
 |some (.struct fs)=>match fs[f]? with
  |some x=>if(P.info? x.type).isSome&&cq P x.type !=0 then some x.offset else none
  |none=>none
 |_=>none
def s5(P:Program)(t:TypeId):Option TypeId:=match P.underlying t with|some (.slice e)=>some e|_=>none
def cellsOf(σ:Hp)(a:Addr)(n:Nat):Option (Array Value):=
 match σ.f a.block with
 |some (.cells c _ _)=>if a.spot=none/\a.off+n<=c.size then some (c.extract a.off (a.off+n))else none
 |_=>none
variable {a:Addr}
theorem Addr.E8(h:a.spot=none)(i:Nat):a.add i=⟨a.block,a.off+i,none⟩:=by
 obtain⟨b,o,s⟩:=a;simp only at h;subst h;unfold Addr.add;split
 ·rename_i h;subst h;simp
 ·rfl
variable {c:Array Value}{e:TypeId}{z:Nat×Nat}
theorem MU(hb:σ.f a.block=some (.cells c e z))(hs:a.spot=none)(n:Nat):
 ∀(i:Nat) (acc:Array Value) (Q:Array Value->Hp->Prop),a.off+i+n<=c.size->Q (acc++c.extract (a.off+i) (a.off+i+n)) σ->wpS P (loadCellsFrom a i n acc) Q H σ:=by
 induction n with
 |zero=>
  intro i acc Q _ h
  have e:acc++c.extract (a.off+i) (a.off+i+0)=acc:=by apply Array.ext';simp only[Array.toList_append,Array.toList_extract,List.extract_eq_take_drop];simp
  rw[e]at h;exact h
 |succ n ih=>
  intro i acc Q bj h
  have hc:σ.cell? (a.add i)=some c[a.off+i]:=by rw[Addr.E8 hs];simp[Hp.cell?,hb]
  simp only[loadCellsFrom,aH,Vb];refine⟨_,hc,ih (i+1) _ Q aa ?_⟩
  have:acc.push c[a.off+i]++c.extract (a.off+(i+1)) (a.off+(i+1)+n)=acc++c.extract (a.off+i) (a.off+i+(n+1)):=by
   apply Array.ext';simp only[Array.toList_append,Array.toList_push,Array.toList_extract,List.append_assoc];congr 1;simp only[List.extract_eq_take_drop,List.singleton_append];rw[show a.off+(i+1)+n-(a.off+(i+1))=n by omega,show a.off+i+(n+1)-(a.off+i)=n+1 by omega]
   have hd:List.drop (a.off+i) c.toList=c[a.off+i]::List.drop (a.off+(i+1)) c.toList:=by rw[List.drop_eq_getElem_cons (by simpa using(by omega:a.off+i<c.size))];simp[Nat.add_assoc]
   rw[hd,List.take_succ_cons]
  rw[this];exact h
def nY(P:Program)(t:TypeId)(a:Addr)(σ:Hp)(k:Value->Prop):Prop:=
 if dx P t then match cellsOf σ a (cq P t)with
  |some cs=>k (.agg cs)
  |none=>False
 else match σ.cell? a with
  |some v=>k v
  |none=>False
theorem vP{t:TypeId}{Q:Value->Hp->Prop}(ht:dm P t=true)(h:nY P t a σ (λv=>Q v σ)):wpS P (loadVar t a) Q H σ:=by
 unfold dm at ht;simp only[Bool.and_eq_true,Option.isSome_iff_exists]at ht;obtain⟨⟨d,hd⟩,⟨i,hi⟩⟩:=ht;unfold nY dx at h;simp only[loadVar,isAgg,aH,dZ,hd]
 have key:∀(b:Bool),(if b=true then(match cellsOf σ a (cq P t)with|some cs=>Q (.agg cs) σ|none=>False)else(match σ.cell? a with|some v=>Q v σ|none=>False))->
  wpS P (if b=true then(do pure (.agg (<-loadCells a (<-sizeOf t))))else load a:Sem Value) Q H σ:=by
  intro b hh
  cases b with
  |true=>
   simp only[if_true]at hh|-;simp only[sizeOf,aH,fQ,hi,bq];unfold cellsOf at hh;split at hh
   ·rename_i cs qz;split at qz
    ·rename_i c e z hb;split at qz
     ·rename_i bj;obtain rfl:=Option.some.inj qz;refine MU hb bj.1 _ 0 #[] _ (by have:=bj.2;simpa[cq,hi]using this) ?_;have e1:cq P t=i.size:=by simp[cq,hi]
      rw[e1]at hh;simpa using hh
     ·cases qz
    ·cases qz
   ·exact hh.elim
  |false=>
   simp only[Bool.false_eq_true,if_false]at hh|-;simp only[Vb];split at hh
   ·rename_i v hv;exact⟨v,hv,hh⟩
   ·exact hh.elim
 rw[hd]at h
 cases d<;>simp only[bq]at h|-<;>first|exact key true h|exact key false h
theorem Hp.ext'(hf:∀b,σ.f b=τ.f b):σ=τ:=by obtain⟨f⟩:=σ;obtain⟨g⟩:=τ;have:f=g:=funext hf;subst this;rfl
variable {b:Nat}
theorem Hp.modify_eq(hb:σ.f b=some o)(g:Obj->Obj):σ.modify b g=σ.set b (g o):=
 Hp.ext' λx=>by simp only[Hp.modify,Hp.set,hb,Option.map_some]
theorem Hp.set_set(b:Nat)(o o':Obj):(σ.set b o).set b o'=σ.set b o':=
 Hp.ext' λx=>by simp only[Hp.set];split<;>rfl
theorem Hp.Hk(hb:σ.f b=some o):σ.set b o=σ:=
 Hp.ext' λx=>by
  simp only[Hp.set];split
  ·rename_i h;rw[h,hb]
  ·rfl
theorem Hp.bD(b:Nat)(o:Obj):(σ.set b o).f b=some o:=by simp[Hp.set]
theorem Hp.aO{x:Nat}(o:Obj)(h:x≠b):(σ.set b o).f x=σ.f x:=by simp[Hp.set,h]
theorem anG(hb:σ.f a.block=some (.cells c e z))(hs:a.spot=none):σ.setCell a v=σ.set a.block (.cells (c.setIfInBounds a.off v) e z):=by unfold Hp.setCell;rw[Hp.modify_eq hb];simp[yt,hs]
def uL(P:Program)(t:TypeId)(a:Addr)(v:Value)(σ:Hp)(k:Hp->Prop):Prop:=
 match σ.f a.block with
 |some (.cells c e z)=>
  if de v then a.spot=none/\a.off<c.size/\z=(0,0)/\cq P t=1/\k (σ.set a.block (.cells (c.setIfInBounds a.off v) e z))
  else a.spot=none/\a.off+v.cells.size<=c.size/\z=(0,0)/\cq P t=v.cells.size/\v.cells.all de=true/\
   k (σ.set a.block (.cells (c.extract 0 a.off++v.cells++c.extract (a.off+v.cells.size) c.size) e z))
 |_=>False
theorem EM(hs:a.spot=none)(vs:List Value):
 ∀(i:Nat) (c:Array Value) (σ:Hp) (Q:Unit->Hp->Prop),σ.f a.block=some (.cells c e (0,0))->a.off+i+vs.length<=c.size->vs.all de=true->
  Q () (σ.set a.block (.cells (c.extract 0 (a.off+i)++vs.toArray++c.extract (a.off+i+vs.length) c.size) e (0,0)))->wpS P (storeCells a vs i) Q H σ:=by
 induction vs with
 |nil=>
  intro i c σ Q hb bj _ h;simp only[storeCells,bq]
  have e1:c.extract 0 (a.off+i)++([]:List Value).toArray++c.extract (a.off+i+([]:List Value).length) c.size=c:=by apply Array.ext';simp only[Array.toList_append,Array.toList_extract,List.extract_eq_take_drop,Nat.sub_zero,List.drop_zero,List.append_nil,List.length_nil,Nat.add_zero];rw[List.take_of_length_le (l:=List.drop (a.off+i) c.toList) al];exact List.take_append_drop _ _
  rw[e1,Hp.Hk hb]at h;exact h
 |cons v vs ih=>
  intro i c σ Q hb bj lB h;simp only[List.all_cons,Bool.and_eq_true]at lB;simp only[List.length_cons]at bj;simp only[storeCells,aH];rw[aqf _ _ lB.1,Addr.E8 hs];have dE:σ.f (⟨a.block,a.off+i,none⟩:Addr).block=some (.cells c e (0,0)):=hb;have yS:a.off+i<c.size:=aa;refine⟨⟨c[a.off+i],by simp[Hp.cell?,hb,yS]⟩,by simp[Hp.frozen?,hb],?_⟩;rw[anG dE rfl];refine ih (i+1) (c.setIfInBounds (a.off+i) v) _ Q (Hp.bD _ _) (by simp;omega) lB.2 ?_;rw[Hp.set_set]
  have e1:(c.setIfInBounds (a.off+i) v).extract 0 (a.off+(i+1))++vs.toArray++(c.setIfInBounds (a.off+i) v).extract (a.off+(i+1)+vs.length) (c.setIfInBounds (a.off+i) v).size=c.extract 0 (a.off+i)++(v::vs).toArray++c.extract (a.off+i+(v::vs).length) c.size:=by
   apply Array.ext';simp only[Array.toList_append,Array.toList_extract,Array.toList_setIfInBounds,List.extract_eq_take_drop,Nat.sub_zero,List.drop_zero,Array.size_setIfInBounds,List.length_cons]
   have h1:List.take (a.off+(i+1)) (c.toList.set (a.off+i) v)=List.take (a.off+i) c.toList++[v]:=by rw[show a.off+(i+1)=(a.off+i)+1 by omega,List.take_succ_eq_append_getElem (aZ yS)];rw[List.take_set_of_le (Nat.le_refl _)];simp
   have h2:List.drop (a.off+(i+1)+vs.length) (c.toList.set (a.off+i) v)=List.drop (a.off+i+(vs.length+1)) c.toList:=by rw[List.drop_set_of_lt aa,show a.off+(i+1)+vs.length=a.off+i+(vs.length+1)by omega]
   rw[h1,h2,show c.size-(a.off+(i+1)+vs.length)=c.size-(a.off+i+(vs.length+1))by omega];simp
  rw[e1];exact h
theorem OD(h:de v=true):v.cells= #[v]:=by cases v<;>first|rfl|cases h
theorem Mp{t:TypeId}{Q:Unit->Hp->Prop}(ht:dm P t=true)(h:uL P t a v σ (λae=>Q () ae)):wpS P (storeVar t a v) Q H σ:=by
 unfold dm at ht;simp only[Bool.and_eq_true,Option.isSome_iff_exists]at ht;obtain⟨_,⟨i,hi⟩⟩:=ht;unfold uL at h;split at h
 ·rename_i c e z hb;have gE:cq P t=i.size:=by simp[cq,hi]
  simp only[storeVar,sizeOf,aH,fQ,hi,bq];split at h
  ·rename_i hv;obtain⟨hs,bj,rfl,h1,hk⟩:=h;rw[OD hv];rw[if_neg (by simp;omega)];simp only[bq];refine EM hs [v] 0 c σ _ hb (by simp;omega) (by simp[hv]) ?_
   have e1:c.extract 0 (a.off+0)++[v].toArray++c.extract (a.off+0+[v].length) c.size=c.setIfInBounds a.off v:=by apply Array.ext';simp only[Array.toList_append,Array.toList_extract,Array.toList_setIfInBounds,List.extract_eq_take_drop,Nat.sub_zero,List.drop_zero,Nat.add_zero,List.length_cons,List.length_nil,Nat.zero_add];rw[List.set_eq_take_append_cons_drop,if_pos (aZ bj),List.take_of_length_le (l:=List.drop (a.off+1) c.toList) al];simp
   rw[e1];exact hk
  ·obtain⟨hs,bj,rfl,h1,lB,hk⟩:=h;rw[if_neg aa];refine EM hs v.cells.toList 0 c σ _ hb (aZ bj) (by rw[<-Array.all_toList]at lB;exact lB) ?_;simpa using hk
 ·exact h.elim
theorem aY:(σ.set b o).f b=some o:=Hp.bD _ _
end
end Go.Qw
