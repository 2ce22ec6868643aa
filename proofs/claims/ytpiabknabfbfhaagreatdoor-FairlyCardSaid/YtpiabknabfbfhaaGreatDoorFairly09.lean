/- Part 9. -/
import Derived.Conc.TokenFlight
import Derived.Conc.TokenWalk
import Derived.Test.YtpiabknabfbfhaaGreatDoorFairly07
set_option linter.all false
set_option maxRecDepth 100000
set_option maxHeartbeats 8000000
namespace Go.Qw
open Go Go.Conc
structure dJ (S Still Q:Loc->Prop) (jw o B:Nat) (K:Nat->Prop) (t:Trace):Prop where
 clean:∀said,¬Race said t
 known:∀i a,touchAt t i=some a->a.loc.isMemory=true->K i\/(S a.loc/\a.kind=.atomic/\¬t.counts i)\/(t.g? i=some o/\a.write=false/\Still a.loc)
 wrote:∀i a,touchAt t i=some a->a.write=true->Still a.loc->Knows t o i
 pure:∀i a,touchAt t i=some a->Q a.loc->a.kind≠.plain\/Knows t jw i
 seen:∀op∈t,op.act.low B
section
variable {S:Loc->Prop}{BX:Loc->Prop}{Q:Loc->Prop}{jw:Nat}{o:Nat}{h:Nat}{K':Nat->Prop}{t:Trace}{u:Trace}
variable {Still:Loc->Prop}{B:Nat}{K:Nat->Prop}
def dJ.mono {B':Nat}(H:dJ S Still Q jw o B K t)(hB:B<=B'):dJ S Still Q jw o B' K t:=⟨H.clean,H.known,H.wrote,H.pure,λop aS=>MemAct.low_mono hB (H.seen op aS)⟩
def dJ.anR {S':Loc->Prop}(H:dJ S Still Q jw o B K t)(hS:∀l,S l->S' l):dJ S' Still Q jw o B K t:=
 ⟨H.clean,λi a ha hm=>(H.known i a ha hm).imp id (λx=>x.imp (λy=>⟨hS _ y.1,y.2⟩) id),H.wrote,H.pure,H.seen⟩
def dJ.old_known (H:dJ S Still Q jw o B K t)(hK:∀i,K i->K' i){i:Nat}{a:Touch}{x:MemOp}(cU:t[i]? =some x)(bF:x.act.touch?=some a)(hm:a.loc.isMemory=true):
 K' i\/(S a.loc/\a.kind=.atomic/\¬(t++u).counts i)\/((t++u).g? i=some o/\a.write=false/\Still a.loc):=by
 have hi:=lt_size_of_getElem? cU;rcases H.known i a (by rw[touchAt_of cU];exact bF) hm with x|⟨x,y,z⟩|⟨x,y,z⟩
 ·exact .inl (hK i x)
 ·exact .inr (.inl ⟨x,y,λc=>z ((counts_old hi).1 c)⟩)
 ·exact .inr (.inr ⟨by rw[g?_old hi];exact x,y,z⟩)
def dJ.appMute (H:dJ S Still Q jw o B K t)(hK:∀i,K i->K' i)(hn:∀op∈u,op.act.touch?=none)(hl:∀op∈u,op.act.low B):dJ S Still Q jw o B K' (t++u):=by
 refine⟨λsaid=>noRace_appendMute (H.clean said) hn,λi a ha hm=>?_,λi a ha hw hS=>?_,λi a ha hq=>?_,seen_app H.seen hl⟩
 ·obtain⟨x,hx,bF⟩:=touch_of ha;rcases getElem?_append_cases hx with⟨_,cU⟩|⟨_,dp⟩
  ·exact H.old_known hK cU bF hm
  ·rw[hn x dp]at bF;cases bF
 ·obtain⟨x,hx,bF⟩:=touch_of ha;rcases getElem?_append_cases hx with⟨_,cU⟩|⟨_,dp⟩
  ·exact(H.wrote i a (by rw[touchAt_of cU];exact bF) hw hS).app u
  ·rw[hn x dp]at bF;cases bF
 ·obtain⟨x,hx,bF⟩:=touch_of ha;rcases getElem?_append_cases hx with⟨_,cU⟩|⟨_,dp⟩
  ·exact(H.pure i a (by rw[touchAt_of cU];exact bF) hq).imp id (·.app u)
  ·rw[hn x dp]at bF;cases bF
def dJ.appRead (H:dJ S Still Q jw o B K t)(hK:∀i,K i->K' i)(Jv:∀l,Still l->¬Q l)(hu:∀op∈u,op.g=o)(hr:∀op∈u,∀b,op.act.touch?=some b->b.write=false/\Still b.loc)(hl:∀op∈u,op.act.low B):
 dJ S Still Q jw o B K' (t++u):=by
 refine⟨λsaid=>noRace_append (H.clean said) hu λi a ha op aS b hb hc=>?_,λi a ha hm=>?_,λi a ha hw hS=>?_,λi a ha hq=>?_,seen_app H.seen hl⟩
 ·obtain⟨lY,AF⟩:=hr op aS b hb;rcases hc.2.2.1 with x|x
  ·exact H.wrote i a ha x (hc.1▸AF)
  ·rw[lY]at x;cases x
 ·obtain⟨x,hx,bF⟩:=touch_of ha;rcases getElem?_append_cases hx with⟨_,cU⟩|⟨_,dp⟩
  ·exact H.old_known hK cU bF hm
  ·exact .inr (.inr ⟨by rw[g?_of hx,hu x dp],hr x dp a bF⟩)
 ·obtain⟨x,hx,bF⟩:=touch_of ha;rcases getElem?_append_cases hx with⟨_,cU⟩|⟨_,dp⟩
  ·exact(H.wrote i a (by rw[touchAt_of cU];exact bF) hw hS).app u
  ·rw[(hr x dp a bF).1]at hw;cases hw
 ·obtain⟨x,hx,bF⟩:=touch_of ha;rcases getElem?_append_cases hx with⟨_,cU⟩|⟨_,dp⟩
  ·exact(H.pure i a (by rw[touchAt_of cU];exact bF) hq).imp id (·.app u)
  ·exact absurd hq (Jv _ (hr x dp a bF).2)
def dJ.appH (H:dJ S Still Q jw o B (Knows t h) t)(hu:∀op∈u,op.g=h)(hs:∀op∈u,∀b,op.act.touch?=some b->(S b.loc->b.kind≠.plain)/\(Still b.loc->b.write=false)/\(Q b.loc->b.kind≠.plain))
 (hl:∀op∈u,op.act.low B):dJ S Still Q jw o B (Knows (t++u) h) (t++u):=by
 refine⟨λsaid=>noRace_append (H.clean said) hu λi a ha op aS b hb hc=>?_,λi a ha hm=>?_,λi a ha hw hS=>?_,λi a ha hq=>?_,seen_app H.seen hl⟩
 ·obtain⟨AF,hbT,_⟩:=hs op aS b hb;rcases H.known i a ha hc.2.1 with hk|⟨x,y,_⟩|⟨_,x,y⟩
  ·exact hk
  ·obtain⟨_,_,_,xa⟩:=hc;rw[y]at xa;rcases xa with z|z|⟨_,z,_⟩
   ·cases z
   ·exact absurd z (AF (by rw[<-‹a.loc=b.loc›];exact x))
   ·cases z
  ·have lY:=hbT (hc.1▸y);rcases hc.2.2.1 with z|z
   ·rw[x]at z;cases z
   ·rw[lY]at z;cases z
 ·obtain⟨x,hx,bF⟩:=touch_of ha;rcases getElem?_append_cases hx with⟨_,cU⟩|⟨_,dp⟩
  ·exact H.old_known (λ_ x=>x.app u) cU bF hm
  ·have:=knows_own hx;rw[hu x dp]at this;exact .inl this
 ·obtain⟨x,hx,bF⟩:=touch_of ha;rcases getElem?_append_cases hx with⟨_,cU⟩|⟨_,dp⟩
  ·exact(H.wrote i a (by rw[touchAt_of cU];exact bF) hw hS).app u
  ·rw[(hs x dp a bF).2.1 hS]at hw;cases hw
 ·obtain⟨x,hx,bF⟩:=touch_of ha;rcases getElem?_append_cases hx with⟨_,cU⟩|⟨_,dp⟩
  ·exact(H.pure i a (by rw[touchAt_of cU];exact bF) hq).imp id (·.app u)
  ·exact .inl ((hs x dp a bF).2.2 hq)
def dJ.pass {s r:Nat}(H:dJ S Still Q jw r B (Knows t s) t)(wW:∀l,BX l->l.isMemory=true/\¬S l)(hn:∀op∈u,op.act.touch?=none)(hl:∀op∈u,op.act.low B)
 (he:∀i,Knows t s i->Knows (t++u) r i):dJ S BX Q jw s B (Knows (t++u) r) (t++u):=by
 refine⟨λsaid=>noRace_appendMute (H.clean said) hn,λi a ha hm=>?_,λi a ha hw hS=>?_,λi a ha hq=>?_,seen_app H.seen hl⟩
 ·obtain⟨x,hx,bF⟩:=touch_of ha;rcases getElem?_append_cases hx with⟨hi,cU⟩|⟨_,dp⟩
  ·rcases H.known i a (by rw[touchAt_of cU];exact bF) hm with y|⟨y,z,v⟩|⟨y,z,v⟩
   ·exact .inl (he i y)
   ·exact .inr (.inl ⟨y,z,λc=>v ((counts_old hi).1 c)⟩)
   ·have:=knows_own hx;rw[show x.g=r from by have:=g?_of cU;rw[y]at this;exact(Option.some.inj this).symm]at this;exact .inl this
  ·rw[hn x dp]at bF;cases bF
 ·obtain⟨x,hx,bF⟩:=touch_of ha;rcases getElem?_append_cases hx with⟨hi,cU⟩|⟨_,dp⟩
  ·rcases H.known i a (by rw[touchAt_of cU];exact bF) (wW _ hS).1 with y|⟨y,_⟩|⟨_,z,_⟩
   ·exact y.app u
   ·exact absurd y (wW _ hS).2
   ·rw[hw]at z;cases z
  ·rw[hn x dp]at bF;cases bF
 ·obtain⟨x,hx,bF⟩:=touch_of ha;rcases getElem?_append_cases hx with⟨_,cU⟩|⟨_,dp⟩
  ·exact(H.pure i a (by rw[touchAt_of cU];exact bF) hq).imp id (·.app u)
  ·rw[hn x dp]at bF;cases bF
end
section
variable {S:Loc->Prop}{Q:Loc->Prop}{jw:Nat}{o:Nat}{h:Nat}{t:Trace}
variable {B:Nat}
def dJ.ofPast (h:Past S B t)(hQ:∀l,¬Q l):dJ S (λ_=>False) Q jw o B (Knows t 0) t:=by
 refine⟨h.clean,λi a ha hm=>?_,λ_ _ _ _ x=>x.elim,λi a ha x=>absurd x (hQ _),h.seen⟩;by_cases hk:Knows t 0 i
 ·exact .inl hk
 ·rcases h.known i a ha hm with x|⟨x,y⟩
  ·exact absurd x hk
  ·refine .inr (.inl ⟨x,y,λhc=>hk ?_⟩);obtain⟨op,aS,_⟩:=touch_of ha;by_cases e:op.g=0
   ·rw[<-e];exact knows_own aS
   ·obtain⟨j,hj,hb⟩:=h.over i op.g (g?_of aS) e hc;unfold Trace.g? at hj;obtain⟨z,hz,KG⟩:=Option.map_eq_some_iff.1 hj;exact⟨j,z,hz,KG,.inr hb⟩
def dJ.toPast (H:dJ S (λ_=>False) Q jw o B (Knows t 0) t)(hd:Deaf t 0=0):Past S B t:=by
 refine⟨H.clean,λi a ha hm=>?_,λi g hg aE hc=>?_,hd,H.seen⟩
 ·rcases H.known i a ha hm with x|⟨x,y,_⟩|⟨_,_,x⟩
  ·exact .inl x
  ·exact .inr ⟨x,y⟩
  ·exact x.elim
 ·obtain⟨x,hx,hm,_⟩:=id hc;rcases H.known i x hx hm with⟨q,z,hq,hz,hb⟩|⟨_,_,y⟩|⟨_,_,y⟩
  ·refine⟨q,by rw[g?_of hq,hz],?_⟩;rcases hb with rfl|hb
   ·rw[g?_of hq,hz]at hg;exact absurd (Option.some.inj hg).symm aE
   ·exact hb
  ·exact absurd hc y
  ·exact y.elim
def Sf {s r:Nat}(hs:Deaf t s=0)(hr:Deaf t r=0)(fh:FuncId)(ph:String)(fj:FuncId)(pj:String)(c k cap:Nat){i:Nat}(h:Knows t s i):Knows (t++met s r fh ph fj pj c k cap) r i:=by
 have hq:∀g,∀op∈met s r fh ph fj pj c k cap,∀d,deafStep g d op=d:=λg=>met_quiet s r fh ph fj pj c k cap g;have e0:(t++met s r fh ph fj pj c k cap)[t.size]? =some {g:=s,fn:=fh,pos:=ph,act:=.send c k}:=by simp[met]
 have e3:(t++met s r fh ph fj pj c k cap)[t.size+3]? =some {g:=r,fn:=fj,pos:=pj,act:=.recvDone c k}:=by simp[met]
 have Ap:HappensBefore (t++met s r fh ph fj pj c k cap) t.size (t.size+3):=
  Relation.TransGen.single (.inr ⟨.handOver (act?_of e0) (act?_of e3),⟨s,g?_of e0,by rw[deaf_old (Nat.le_refl _)];exact hs⟩,⟨r,g?_of e3,by rw[deaf_quiet (hq r) 3 (by simp[met])];exact hr⟩⟩)
 exact⟨t.size+3,_,e3,rfl,.inr ((h.hb_new (Nat.le_refl _) e0 rfl).trans Ap)⟩
def Nd {s r:Nat}(fh:FuncId)(ph:String)(fj:FuncId)(pj:String)(c k cap g:Nat):Deaf (t++met s r fh ph fj pj c k cap) g=Deaf t g:=Deaf_quiet (met_quiet s r fh ph fj pj c k cap g)
def kz (h c:Nat)(fh:FuncId)(ph:String)(fc:FuncId):Trace:=#[{g:=h,fn:=fh,pos:=ph,act:=.go c},{g:=c,fn:=fc,pos:=ph,act:=.start}]
def aeD (h c:Nat)(fh:FuncId)(ph:String)(fc:FuncId):∀op∈kz h c fh ph fc,op.act.touch?=none:=by intro op aS;simp only[kz,List.mem_toArray,List.mem_cons,List.not_mem_nil,or_false]at aS;rcases aS with rfl|rfl<;>rfl
def Q7 (h c:Nat)(fh:FuncId)(ph:String)(fc:FuncId)(g:Nat):∀op∈kz h c fh ph fc,∀d,deafStep g d op=d:=by intro op aS d;simp only[kz,List.mem_toArray,List.mem_cons,List.not_mem_nil,or_false]at aS;rcases aS with rfl|rfl<;>rfl
def aeC (h c:Nat)(fh:FuncId)(ph:String)(fc:FuncId)(B:Nat):∀op∈kz h c fh ph fc,op.act.low B:=by intro op aS;simp only[kz,List.mem_toArray,List.mem_cons,List.not_mem_nil,or_false]at aS;rcases aS with rfl|rfl<;>trivial
def ahU {h c:Nat}(hh:Deaf t h=0)(hc:Deaf t c=0)(fh:FuncId)(ph:String)(fc:FuncId){i:Nat}(k:Knows t h i):Knows (t++kz h c fh ph fc) c i:=by
 have e0:(t++kz h c fh ph fc)[t.size]? =some {g:=h,fn:=fh,pos:=ph,act:=.go c}:=by simp[kz]
 have e1:(t++kz h c fh ph fc)[t.size+1]? =some {g:=c,fn:=fc,pos:=ph,act:=.start}:=by simp[kz]
 have Ap:HappensBefore (t++kz h c fh ph fc) t.size (t.size+1):=
  Relation.TransGen.single (.inr ⟨.spawn (act?_of e0) (act?_of e1) (g?_of e1),⟨h,g?_of e0,by rw[deaf_old (Nat.le_refl _)];exact hh⟩,⟨c,g?_of e1,by rw[deaf_quiet (Q7 h c fh ph fc c) 1 (by simp[kz])];exact hc⟩⟩)
 exact⟨t.size+1,_,e1,rfl,.inr ((k.hb_new (Nat.le_refl _) e0 rfl).trans Ap)⟩
def dJ.hire {S Still Q VD:Loc->Prop}{ak3 ahw B c:Nat}{t:Trace}(H:dJ S (λ_=>False) VD ahw ak3 B (Knows t 0) t)(hS:∀l,Still l->l.isMemory=true/\¬S l)(hQ:∀l,Q l->l.isMemory=true)(hh:Deaf t 0=0)(hc:Deaf t c=0)(fh:FuncId)(ph:String)(fc:FuncId):
 dJ S Still Q c 0 B (Knows (t++kz 0 c fh ph fc) c) (t++kz 0 c fh ph fc):=by
 have hn:=aeD 0 c fh ph fc;have kn:∀{i},Knows t 0 i->Knows (t++kz 0 c fh ph fc) c i:=λk=>ahU hh hc fh ph fc k;refine⟨λsaid=>noRace_appendMute (H.clean said) hn,λi a ha hm=>?_,λi a ha hw bw=>?_,λi a ha hq=>?_,seen_app H.seen (aeC _ _ _ _ _ B)⟩
 ·obtain⟨x,hx,bF⟩:=touch_of ha;rcases getElem?_append_cases hx with⟨hi,cU⟩|⟨_,dp⟩
  ·rcases H.known i a (by rw[touchAt_of cU];exact bF) hm with y|⟨y,z,v⟩|⟨_,_,v⟩
   ·exact .inl (kn y)
   ·exact .inr (.inl ⟨y,z,λc=>v ((counts_old hi).1 c)⟩)
   ·exact v.elim
  ·rw[hn x dp]at bF;cases bF
 ·obtain⟨x,hx,bF⟩:=touch_of ha;rcases getElem?_append_cases hx with⟨hi,cU⟩|⟨_,dp⟩
  ·rcases H.known i a (by rw[touchAt_of cU];exact bF) (hS _ bw).1 with y|⟨y,_⟩|⟨_,_,v⟩
   ·exact y.app _
   ·exact absurd y (hS _ bw).2
   ·exact v.elim
  ·rw[hn x dp]at bF;cases bF
 ·obtain⟨x,hx,bF⟩:=touch_of ha;rcases getElem?_append_cases hx with⟨hi,cU⟩|⟨_,dp⟩
  ·rcases H.known i a (by rw[touchAt_of cU];exact bF) (hQ _ hq)with y|⟨_,y,_⟩|⟨_,_,v⟩
   ·exact .inr (kn y)
   ·exact .inl (by rw[y];exactλe=>by cases e)
   ·exact v.elim
  ·rw[hn x dp]at bF;cases bF
end
section
variable (P:Program)(main:Bool)(K:World->Prop)(Still:Loc->Prop)(B:Nat)(s:Seat)
def Way:Nat->Goroutine->Prop
 |0,g=>∃cO,AtIn P main K Still B s g cO
 |n+1,g=>(∃cO,AtIn P main K Still B s g cO)\/(g.status=.running/\∀w,K w->(stepG P main g w).goes λg' w' es=>AtRel w w'/\(∀e∈es,EvC Still B e)/\Way n g')
def dW (n:Nat)(g:Goroutine):Prop:=
 (∃k,n=k+1/\Way P main K Still B s k g)\/(n=0/\∃pB cO,g=parked cO s.cases s.shape/\AtIn P main K Still B s pB cO)
end
section
variable {h:Nat}
variable {P:Program}{main:Bool}{K:World->Prop}{Still:Loc->Prop}{B:Nat}{s:Seat}
def Way.running:∀{n:Nat} {g:Goroutine},Way P main K Still B s n g->g.status=.running
 |0,_,⟨_,h⟩=>h.1
 |_+1,_,h=>h.elim (λ⟨_,x⟩=>x.1) (λx=>x.1)
def Way.mono:∀{n m:Nat} {g:Goroutine},n<=m->Way P main K Still B s n g->Way P main K Still B s m g
 |0,0,_,_,h=>h
 |0,_+1,_,_,h=>.inl h
 |_+1,0,_,hn,_=>absurd hn aa
 |n+1,m+1,g,hn,h=>by
  refine h.imp id λ⟨hr,x⟩=>⟨hr,λw hw=>?_⟩;have:=x w hw
  cases hg:stepG P main g w<;>rw[hg]at this<;>first|exact this.elim|skip
  exact⟨this.1,this.2.1,Way.mono aa this.2.2⟩
def dW.status {n:Nat}{g:Goroutine}(h:dW P main K Still B s n g):(g.status=.running/\0<n)\/(g.status=.blocked/\n=0):=by
 rcases h with⟨k,rfl,hg⟩|⟨rfl,_,cO,rfl,_⟩
 ·exact .inl ⟨hg.running,aa⟩
 ·exact .inr ⟨rfl,rfl⟩
def dW.pick {n:Nat}{y:Goroutine}{w:World}(h:dW P main K Still B s n y)(hr:y.status=.running)(hK:K w):
 (∃cO es k,n=k+1/\AtIn P main K Still B s y cO/\(∀e∈es,EvC Still B e)/\stepG P main y w=.comm cO s.cases true s.shape w es)\/
  ∃n' y' d es,n'<n/\0<n'/\(∀e∈es,EvC Still B e)/\stepG P main y w=.go y' (w.at d) es/\dW P main K Still B s n' y':=by
 rcases h with⟨k,rfl,hg⟩|⟨rfl,_,cO,rfl,_⟩
 ·have stop:(∃cO,AtIn P main K Still B s y cO)->∃cO es k',k+1=k'+1/\AtIn P main K Still B s y cO/\(∀e∈es,EvC Still B e)/\stepG P main y w=.comm cO s.cases true s.shape w es:=by rintro⟨cO,ha⟩;obtain⟨_,_,_,_,_,es,eF,bw⟩:=id ha;exact⟨cO,es,k,rfl,ha,eF,bw w hK⟩
  cases k with
  |zero=>exact .inl (stop hg)
  |succ k=>
   rcases hg with x|⟨_,gz⟩
   ·exact .inl (stop x)
   ·right;have:=gz w hK
    cases hgo:stepG P main y w<;>rw[hgo]at this<;>first|exact this.elim|skip
    rename_i y' w' es;obtain⟨⟨d,rfl⟩,eF,eX⟩:=this;exact⟨k+1,y',d,es,aa,aa,eF,rfl,.inl ⟨k,rfl,eX⟩⟩
 ·cases hr
end
section
open Go.ConcN (sumTo upd sumTo_upd upd_ne upd_same)
variable {S Q:Loc->Prop}
structure Duo (P:Program) where
 W:World
 j:Nat
 chans:Nat->Prop
 K:World->Prop
 KW:World->Prop
 HK:Nat->Prop
 S:Loc->Prop
 Still:Loc->Prop
 Q:Loc->Prop
 B:Nat
 hj:0<j
 Cz:∀w,K w->KW w
 CB:∀w d,K w->K (w.at d)
 Jp:∀w c k,chans c->K w->K (w.setChan c 0 #[] false k k false)
 cell:∀l,S l\/Still l\/Q l->∃a:Addr,l=.cell a
 apart:∀l,Still l->¬S l/\¬Q l
section
variable {S:Loc->Prop}{Q:Loc->Prop}{h:Nat}
variable {P:Program}(D:Duo P)
def Duo.Hid (b:Nat):Prop:=D.HK b\/D.chans b\/∃a:Addr,a.block=b/\(D.S (.cell a)\/D.Q (.cell a))
structure Duo.Deep:Prop where
 k:∀w w',(∀b,D.HK b->w'.heap[b]? =w.heap[b]?)->D.K w->D.K w'
 still:∀a:Addr,D.Still (.cell a)->D.HK a.block
def Open (c:Nat)(w:World):Prop:=∃k,w.heap[c]? =some (.chan 0 #[] false k k false)
def Calm (e:Event):Prop:=(e.loc≠.mark .disable/\e.loc≠.mark .enable)/\∀a,e.loc≠.mark (.release a)
structure Duo.Base (gs:Array Goroutine) (w:World) (T:Trace) (q:Nat->Nat):Prop where
 kR:D.j<gs.size
 gI:∀i g,0<i->i≠D.j->gs[i]? =some g->QuitsD P (q i) (Deaf T i) g
 above:∀i,gs.size<=i->Deaf T i=0
 d0:Deaf T 0=0
 dj:Deaf T D.j=0
 k:D.K w
 chans:∀c,D.chans c->Open c w
 mA:D.B<=w.heap.size
 q9:lh D.W w
 nr:pk D.Q T
def Duo.Of (p:Nat):Prop:=p=0\/p=D.j
def Duo.gf (h x:Nat):Prop:=(h=0/\x=D.j)\/(h=D.j/\x=0)
end
variable {P:Program}{D:Duo P}{h x:Nat}
def Duo.gf.symm(t:D.gf h x):D.gf x h:=t.elim (λ⟨a,b⟩=>.inr ⟨b,a⟩) (λ⟨a,b⟩=>.inl ⟨b,a⟩)
def Duo.gf.ne(t:D.gf h x):h≠x:=by have:=D.hj;rcases t with⟨rfl,rfl⟩|⟨rfl,rfl⟩<;>omega
def Duo.gf.left(t:D.gf h x):D.Of h:=t.elim (λa=>.inl a.1) (λa=>.inr a.1)
def Duo.gf.right(t:D.gf h x):D.Of x:=t.symm.left
variable {i:Nat}
def Duo.gf.Aq(t:D.gf h x)(h1:i≠h)(h2:i≠x):0<i/\i≠D.j:=by
 rcases t with⟨rfl,rfl⟩|⟨rfl,rfl⟩
 ·exact⟨aa,h2⟩
 ·exact⟨aa,h1⟩
variable {gs:Array Goroutine}{w:World}{T:Trace}{q:Nat->Nat}
def Duo.Base.at (b:D.Base gs w T q)(d:Nat):D.Base gs (w.at d) T q:=
 ⟨b.kR,b.gI,b.above,b.d0,b.dj,D.CB w d b.k,b.chans,b.mA,b.q9.at d,b.nr⟩
variable {p:Nat}
def Duo.Base.deaf(b:D.Base gs w T q)(hp:D.Of p):Deaf T p=0:=hp.elim (λe=>e▸b.d0) (λe=>e▸b.dj)
def Duo.Base.lt(b:D.Base gs w T q)(hp:D.Of p):p<gs.size:=by have:=b.kR;rcases hp with rfl|rfl<;>omega
abbrev mh(P:Program)(gs:Array Goroutine)(i:Nat)(g g':Goroutine)(w':World):Array Goroutine:=(gs.map (woken P g g' w')).setIfInBounds i g'
variable {w':World}
def iz(i:Nat)(g g':Goroutine):(mh P gs i g g' w').size=gs.size:=al
def rI(h:i<gs.size)(g g':Goroutine):(mh P gs i g g' w')[i]? =some g':=Array.getElem?_setIfInBounds_self_of_lt (aZ h)
variable {k:Nat}{y:Goroutine}
def qJ(h:k≠i)(hy:gs[k]? =some y)(ha:y.again w'=y)(g g':Goroutine):(mh P gs i g g' w')[k]? =some y:=by rw[Array.getElem?_setIfInBounds_ne (λe=>h e.symm),Array.getElem?_map,hy];simp[woken_of_again ha]
variable {g g':Goroutine}
def vT(h:k≠i){x:Goroutine}(hx:(mh P gs i g g' w')[k]? =some x):∃z,gs[k]? =some z/\x=woken P g g' w' z:=by rw[Array.getElem?_setIfInBounds_ne (λe=>h e.symm),Array.getElem?_map]at hx;obtain⟨z,hz,rfl⟩:=Option.map_eq_some_iff.1 hx;exact⟨z,hz,rfl⟩
variable {fn:FuncId}{pos:String}{es:Array Event}
def Duo.Base.step(b:D.Base gs w T q)(hp:D.Of p)(hk:D.K w')(hc:∀c,D.chans c->Open c w')(hs:w.heap.size<=w'.heap.size)(hf:lh D.W w')(he:∀e∈es,Calm e):
 D.Base (mh P gs p g g' w') w' (T++MemOp.ofEvents p fn pos es) q:=by
 have hd:∀i,Deaf (T++MemOp.ofEvents p fn pos es) i=Deaf T i:=by
  intro i;by_cases e:i=p
  ·subst e;rw[Deaf_own];exact deafBehind_still (λe h=>(he e h).1) _
  ·exact Deaf_other T (λx=>e x.symm) _ (λop aS=>by obtain⟨e,_,rfl⟩:=Conc.mem_ofEvents aS;rfl)
 refine⟨by rw[iz];exact b.kR,λi x h1 h2 hx=>?_,λi hi=>?_,(hd 0).trans b.d0,(hd _).trans b.dj,hk,hc,Nat.le_trans b.mA hs,hf,b.nr.events λe h=>Bf (he e h).2⟩
 ·have aE:i≠p:=by rcases hp with rfl|rfl<;>omega
  obtain⟨z,hz,rfl⟩:=vT aE hx;have hq:=b.gI i z h1 h2 hz;rw[woken_quitsD hq,hd];exact hq
 ·rw[iz]at hi;rw[hd];exact b.above i hi
def Duo.Base.leave(b:D.Base gs w T q)(h1:0<i)(h2:i≠D.j)(hg:gs[i]? =some g)(hr:g.status=.running)(d:Nat)(bE:Option (Nat×Nat)):
 ∃g' es q',runT P (crowd gs (w.at d) bE) i=(.next (crowd (mh P gs i g g' (w.at d)) (w.at d) bE),MemOp.ofEvents i g.frame.fn g.frame.place es)/\(∀e∈es,e.mute=true)/\
  sumTo gs.size q'<sumTo gs.size q/\D.Base (mh P gs i g g' (w.at d)) (w.at d) (T++MemOp.ofEvents i g.frame.fn g.frame.place es) q':=by
 have hq:=b.gI i g h1 h2 hg;have qA:(i==0)=false:=by simp;omega
 have bj:i<gs.size:=(Array.getElem?_eq_some_iff.1 hg).1
 cases mQ:q i with
 |zero=>rw[mQ]at hq;rw[hq.1]at hr;cases hr
 |succ k=>
  rw[mQ]at hq;rcases hq with⟨hf,_⟩|⟨_,g',es,hm,lG,bz⟩
  ·rw[hf]at hr;cases hr
  have eG:=runT_crowd_go (P:=P) (sl:=bE) (i:=i) hg (by rw[qA];exact lG (w.at d))
  have Kx:sumTo gs.size (upd q i k)+(k+1)=sumTo gs.size q+k:=by have:=sumTo_upd q k id bj;simpa[mQ]using this
  have fp:∀k,k≠i->Deaf (T++MemOp.ofEvents i g.frame.fn g.frame.place es) k=Deaf T k:=λk e=>
   Deaf_other T (λx=>e x.symm) _ (λop aS=>by obtain⟨e,_,rfl⟩:=Conc.mem_ofEvents aS;rfl)
  refine⟨g',es,upd q i k,eG,hm,aa,by rw[iz];exact b.kR,λc x c1 c2 hx=>?_,λc hc=>?_,(fp 0 aa).trans b.d0,(fp _ (λe=>h2 e.symm)).trans b.dj,(b.at d).k,b.chans,b.mA,b.q9.at d,b.nr.events λe he=>LD (hm e he)⟩
  ·by_cases e:c=i
   ·subst e;rw[rI bj]at hx;obtain rfl:=Option.some.inj hx;rw[upd_same,Deaf_own];exact bz
   ·obtain⟨z,hz,rfl⟩:=vT e hx;have oN:=b.gI c z c1 c2 hz;rw[woken_quitsD oN,upd_ne q k e,fp c e];exact oN
  ·rw[iz]at hc;rw[fp c aa];exact b.above c hc
def Duo.Base.awake(b:D.Base gs w T q)(t:D.gf h x)(hg:gs[h]? =some g)(hy:gs[x]? =some y)(hgs:g.status=.running\/g.status=.blocked\/g.status=.finished)(vI:y.status=.running\/y.status=.blocked\/y.status=.finished):∀z∈gs,awake z:=by
 intro z hz;obtain⟨i,hi,rfl⟩:=Array.mem_iff_getElem.1 hz;by_cases e:i=h
 ·subst e;have:gs[i]=g:=by simpa[Array.getElem?_eq_getElem hi]using hg
  rw[this];exact awake_of hgs
 ·by_cases e':i=x
  ·subst e';have:gs[i]=y:=by simpa[Array.getElem?_eq_getElem hi]using hy
   rw[this];exact awake_of vI
  ·obtain⟨h1,h2⟩:=t.Aq e e';exact awake_of ((b.gI i _ h1 h2 (Array.getElem?_eq_getElem hi)).status.elim .inl λx=>.inr (.inr x))
def Duo.Fits(D:Duo P)(s:Seat):Prop:=∀cc∈s.cases,∃c,D.chans c/\cc.chan=.chan (some c)
def VU{cs:Array CommCase}{sh:CommShape}(h:∀cc∈cs,∃c,cc.chan=.chan (some c)/\Open c w):(parked g cs sh).again w=parked g cs sh:=by simp[Goroutine.again,parked];intro x hx;obtain⟨c,hc,k,hk⟩:=h cs[x] (Array.getElem_mem hx);rw[hc];simp[hk]
variable {main:Bool}{s:Seat}{n:Nat}
def dW.stays(hc:∀c,D.chans c->Open c w)(hs:D.Fits s)(h:dW P main D.KW D.Still D.B s n g):g.again w=g:=by
 rcases h with⟨k,rfl,hg⟩|⟨rfl,_,cO,rfl,_⟩
 ·exact again_of_running (.inl hg.running) w
 ·exact VU λcc cP=>by obtain⟨c,h1,h2⟩:=hs cc cP;exact⟨c,h2,hc c h1⟩
def Duo.St(D:Duo P)(h x:Nat)(s:Seat)(g:Goroutine)(σ:Hp)(m:Machine)(T:Trace):Prop:=
 ∃gs w sl q J n y,m=crowd gs w sl/\gs[h]? =some g/\gs[x]? =some y/\dW P (x==0) D.KW D.Still D.B s n y/\D.Base gs w T q/\dJ D.S D.Still D.Q D.j x w.heap.size (Knows T h) T/\cN J w σ/\(∀b,D.Hid b->J b)
def Duo.Ng(D:Duo P)(n:Nat)(e:Event):Prop:=
 (∀b,(MemAct.ofEvent e).touch?=some b->(D.S b.loc->b.kind≠.plain)/\(D.Still b.loc->b.write=false)/\(D.Q b.loc->b.kind≠.plain))/\Calm e/\(MemAct.ofEvent e).low n
def aaX(hD:D.Deep){J:Nat->Prop}{e:Event}(hJ:∀b,D.Hid b->J b)(h:im J n e):D.Ng n e:=by
 have key:∀{l:Loc},(∀a:Addr,l=.cell a->¬J a.block)->¬(D.S l\/D.Still l\/D.Q l):=by
  intro l hl hs;obtain⟨a,rfl⟩:=D.cell l hs;refine hl a rfl (hJ _ ?_);rcases hs with hs|hs|hs
  ·exact .inr (.inr ⟨a,rfl,.inl hs⟩)
  ·exact .inl (hD.still a hs)
  ·exact .inr (.inr ⟨a,rfl,.inr hs⟩)
 have UR:∀{l:Loc} {b:Touch},b.loc=l->(∀a:Addr,l=.cell a->¬J a.block)->(D.S b.loc->b.kind≠.plain)/\(D.Still b.loc->b.write=false)/\(D.Q b.loc->b.kind≠.plain):=by intro l b hb hl;have:=key hl;rw[<-hb]at this;exact⟨λx=>absurd (.inl x) this,λx=>absurd (.inr (.inl x)) this,λx=>absurd (.inr (.inr x)) this⟩
 obtain⟨loc,wr,sy⟩:=e;unfold im at h
 cases loc with
 |cell a=>
  obtain⟨h1,h2⟩:¬J a.block/\a.block<n:=h;refine⟨λb hb=>UR (l:=.cell a) ?_ (λa' e=>by cases e;exact h1),⟨⟨al,al⟩,al⟩,by cases sy<;>cases wr<;>exact h2⟩
  cases sy<;>cases wr<;>simp[MemAct.ofEvent,MemAct.touch?]at hb<;>subst hb<;>rfl
 |obj r=>
  obtain⟨h1,h2⟩:¬J r/\r<n:=h;refine⟨λb hb=>UR (l:=.obj r) ?_ (λa' e=>by cases e),⟨⟨al,al⟩,al⟩,by cases sy<;>cases wr<;>exact h2⟩
  cases sy<;>cases wr<;>simp[MemAct.ofEvent,MemAct.touch?]at hb<;>subst hb<;>rfl
 |output=>exact h.elim
 |goroutines=>exact h.elim
 |mark m=>
  have h:Bj m=true:=h
  cases m<;>first|cases h|skip
  ·exact⟨λx hx=>by simp[MemAct.ofEvent,MemAct.touch?]at hx,⟨⟨al,al⟩,al⟩,trivial⟩
  ·exact⟨λx hx=>by simp[MemAct.ofEvent,MemAct.touch?]at hx,⟨⟨al,al⟩,al⟩,trivial⟩
def Duo.wK(D:Duo P)(main:Bool)(g:Goroutine)(σ:Hp)(X:Goroutine->Hp->Prop):Prop:=
 ∀J w,cN J w σ->(∀b,D.Hid b->J b)->D.K w->(∀c,D.chans c->Open c w)->lh D.W w->(stepG P main g w).goes λg' w' es=>
  ∃ae J',cN J' w' ae/\(∀b,D.Hid b->J' b)/\D.K w'/\(∀c,D.chans c->Open c w')/\lh D.W w'/\w.heap.size<=w'.heap.size/\(∀e∈es,D.Ng w'.heap.size e)/\g'.status=.running/\X g' ae
variable {σ:Hp}{X:Goroutine->Hp->Prop}
def gM.ab1(hD:D.Deep)(h:gM P main g σ X):D.wK main g σ X:=by
 intro J w hs hJ hK hc hf;have:=h J w hs
 cases hg:stepG P main g w<;>rw[hg]at this<;>first|exact this.elim|skip
 obtain⟨ae,h1,h2,h3,h4,h5⟩:=this;exact⟨ae,J,h1,hJ,hD.k w _ (λb hb=>h2.hidden b (hJ b (.inl hb))) hK,λc cP=>by obtain⟨k,hk⟩:=hc c cP;exact⟨k,by rw[h2.hidden c (hJ c (.inr (.inl cP)))];exact hk⟩,hf.kept h2,h2.tv,λe he=>aaX hD hJ (h3 e he),h4,h5⟩
variable {c:Nat}{b:Bool}
def Eb(hb:D.Base gs w T q)(t:D.gf h x)(hg:gs[h]? =some g)(ho:offersAt g c b=[]):partners (gs.setIfInBounds x ph) c b=[]:=by
 refine partners_nil λj z hz=>?_;rcases getElem?_stand gs x j z hz with⟨_,rfl⟩|⟨h1,h2⟩
 ·exact offersAt_ph c b
 ·by_cases e:j=h
  ·subst e;rw[hg]at h2;rw[<-Option.some.inj h2];exact ho
  ·obtain⟨i1,i2⟩:=t.Aq e h1;refine offersAt_of_not_blocked (λAG=>?_) c b;have:=(hb.gI j z i1 i2 h2).status;rcases this with y|y<;>rw[AG]at y<;>cases y
def Uv(hb:D.Base gs w T q)(t:D.gf h x)(hg:gs[h]? =some g):partners (gs.setIfInBounds x ph) c b=(offersAt g c b).map λk=>(h,k):=by
 refine partners_one (stand_get t.ne hg) λj z hj hz=>?_;rcases getElem?_stand gs x j z hz with⟨_,rfl⟩|⟨h1,h2⟩
 ·exact offersAt_ph c b
 ·obtain⟨i1,i2⟩:=t.Aq hj h1;refine offersAt_of_not_blocked (λAG=>?_) c b;have:=(hb.gI j z i1 i2 h2).status;rcases this with y|y<;>rw[AG]at y<;>cases y
def LA{cc:CommCase}(dK:cc.chan=.chan (some c))(ho:Open c w)(hp:partners gs c (cc.send.isNone)=[]):NoWays w gs cc:=by
 obtain⟨ch,sd,z⟩:=cc;obtain⟨k,hk⟩:=ho
 cases dK
 cases sd with
 |none=>exact ways_recv_none (z:=z) hk hp
 |some v=>exact ways_send_none (z:=z) hk al hp
variable {Still:Loc->Prop}
def yz{B:Nat}(h:∀e∈es,EvC Still B e):∀e∈es,Calm e:=λe he=>by obtain⟨a,rfl,_,_⟩:=h e he;exact⟨⟨al,al⟩,al⟩
def Pl{B:Nat}(h:∀e∈es,EvC Still B e):∀e∈es,e.loc≠.mark .disable/\e.loc≠.mark .enable:=λe he=>(yz h e he).1
def Duo.Base.set(b:D.Base gs w T q)(hp:D.Of p)(y:Goroutine)(he:∀e∈es,Calm e):D.Base (gs.setIfInBounds p y) w (T++MemOp.ofEvents p fn pos es) q:=by
 have hd:∀i,Deaf (T++MemOp.ofEvents p fn pos es) i=Deaf T i:=by
  intro i;by_cases e:i=p
  ·subst e;rw[Deaf_own];exact deafBehind_still (λe h=>(he e h).1) _
  ·exact Deaf_other T (λx=>e x.symm) _ (λop aS=>by obtain⟨e,_,rfl⟩:=Conc.mem_ofEvents aS;rfl)
 refine⟨by simpa using b.kR,λi x h1 h2 hx=>?_,λi hi=>?_,(hd 0).trans b.d0,(hd _).trans b.dj,b.k,b.chans,b.mA,b.q9,b.nr.events λe h=>Bf (he e h).2⟩
 ·have aE:i≠p:=by rcases hp with rfl|rfl<;>omega
  rw[Array.getElem?_setIfInBounds_ne (λe=>aE e.symm)]at hx;rw[hd];exact b.gI i x h1 h2 hx
 ·rw[hd];exact b.above i (aZ hi)
def Duo.other(D:Duo P)(t:D.gf h x)(hs:D.Fits s){sl:Option (Nat×Nat)}(hb:D.Base gs w T q)(hg:gs[h]? =some g)(hga:∀d,g.again (w.at d)=g)(hgo:∀c b,offersAt g c b=[])(hy:gs[x]? =some y)(hr:y.status=.running)(lF:dW P (x==0) D.KW D.Still D.B s n y):
 ∃bZ y' n' d es,runT P (crowd gs w sl) x=(.next (crowd bZ (w.at d) sl),MemOp.ofEvents x y.frame.fn y.frame.place es)/\n'<n/\bZ.size=gs.size/\bZ[h]? =some g/\bZ[x]? =some y'/\dW P (x==0) D.KW D.Still D.B s n' y'/\
  D.Base bZ (w.at d) (T++MemOp.ofEvents x y.frame.fn y.frame.place es) q/\∀e∈es,EvC D.Still D.B e:=by
 rcases dW.pick lF hr (D.Cz _ hb.k)with⟨cO,es,k,rfl,qu,eF,bw⟩|⟨n',y',d,es,bj,_,eF,bw,qH⟩
 ·have hw:∀cc∈s.cases,NoWays w (gs.setIfInBounds x ph) cc:=λcc cP=>by obtain⟨c,h1,h2⟩:=hs cc cP;exact LA h2 (hb.chans c h1) (Eb hb t hg (hgo _ _))
  exact⟨_,parked cO s.cases s.shape,0,w.drawn,es,crowd_waits hy bw hw,aa,al,by rw[Array.getElem?_setIfInBounds_ne t.ne.symm];exact hg,
   Array.getElem?_setIfInBounds_self_of_lt (hb.lt t.right),.inr ⟨rfl,y,cO,rfl,qu⟩,hb.set t.right _ (yz eF),eF⟩
 ·exact⟨_,y',n',d,es,runT_crowd_go hy bw,bj,al,qJ t.ne hg (hga d) _ _,rI (hb.lt t.right) _ _,qH,(hb.at d).step t.right (hb.at d).k hb.chans (Nat.le_refl _) (hb.q9.at d) (yz eF),eF⟩
def dJ.other{jw B:Nat}{K:Nat->Prop}{K':Nat->Prop}(H:dJ S Still Q jw x n K T)(hK:∀i,K i->K' i)(Jv:∀l,Still l->¬Q l)(hB:B<=n)(eF:∀e∈es,EvC Still B e):dJ S Still Q jw x n K' (T++MemOp.ofEvents x fn pos es):=by obtain⟨h1,h2,h3,_⟩:=evC_ops (i:=x) (fn:=fn) (pos:=pos) eF;exact H.appRead hK Jv h1 h2 (λop aS=>MemAct.low_mono hB (h3 op aS))
def Duo.run(D:Duo P)(t:D.gf h x)(hs:D.Fits s){m:Machine}(mG:D.St h x s g σ m T)(hr:g.status=.running)(hX:D.wK (h==0) g σ X):
 ∃N m' T' g' ae,runNT P N m T=(.next m',T')/\D.St h x s g' ae m' T'/\g'.status=.running/\X g' ae:=by
 let Inv:Nat->Machine->Trace->Prop:=λμ m T=>(∃gs w sl q J n y,m=crowd gs w sl/\gs[h]? =some g/\gs[x]? =some y/\dW P (x==0) D.KW D.Still D.B s n y/\D.Base gs w T q/\dJ D.S D.Still D.Q D.j x w.heap.size (Knows T h) T/\cN J w σ/\(∀b,D.Hid b->J b)/\μ=n+sumTo gs.size q+1)\/
  ∃g' ae,D.St h x s g' ae m T/\g'.status=.running/\X g' ae
 suffices step:∀μ m T,Inv μ m T->(∃g' ae,D.St h x s g' ae m T/\g'.status=.running/\X g' ae)\/∃m' ops uO,stepT P m=(.next m',ops)/\uO<μ/\Inv uO m' (T++ops)by
  obtain⟨gs,w,sl,q,J,n,y,rfl,e1,e2,e3,e4,e5,e6,e7⟩:=mG;obtain⟨N,m',T',jW,g',ae,h1,h2,h3⟩:=runs_until step _ _ _ (.inl ⟨gs,w,sl,q,J,n,y,rfl,e1,e2,e3,e4,e5,e6,e7,rfl⟩);exact⟨N,m',T',g',ae,jW,h1,h2,h3⟩
 rintro μ m T (⟨gs,w,sl,q,J,n,y,rfl,hg,hy,lF,hb,hp,fD,hJ,rfl⟩|JR)
 ·right;have vI:=dW.status lF;obtain⟨i,z,d,bE,hi,hz,bw⟩:=crowd_pick (P:=P) (w:=w) (sl:=sl) (hb.awake t hg hy (.inl hr) (vI.elim (λa=>.inl a.1) (λa=>.inr (.inl a.1)))) ⟨h,g,hg,hr⟩;by_cases eh:i=h
  ·
   subst eh;obtain rfl:z=g:=by rw[hg]at hi;exact(Option.some.inj hi).symm
   have hgo:=hX J (w.at d) (fD.at d) hJ (hb.at d).k hb.chans (hb.q9.at d)
   cases lG:stepG P (i==0) z (w.at d)<;>rw[lG]at hgo<;>first|exact hgo.elim|skip
   rename_i g' w' es;obtain⟨ae,J',afw,hJ',hK',cA,AL,gE,jU,ig,hx⟩:=hgo;have eG:=runT_crowd_go (P:=P) (sl:=bE) hi lG;refine⟨_,_,0,bw.trans eG,aa,.inr ⟨g',ae,⟨_,w',bE,q,J',n,y,rfl,rI (hb.lt t.left) _ _,?_,lF,(hb.at d).step t.left hK' cA gE AL (λe he=>(jU e he).2.1),?_,afw,hJ'⟩,ig,hx⟩⟩
   ·exact qJ t.ne.symm hy (dW.stays cA hs lF) _ _
   ·refine(hp.mono gE).appH (λop aS=>by obtain⟨e,_,rfl⟩:=Conc.mem_ofEvents aS;rfl) (λop aS b hb=>?_) (λop aS=>?_)
    ·obtain⟨e,he,rfl⟩:=Conc.mem_ofEvents aS;exact(jU e he).1 b hb
    ·obtain⟨e,he,rfl⟩:=Conc.mem_ofEvents aS;exact(jU e he).2.2
  ·by_cases ex:i=x
   ·
    subst ex;obtain rfl:z=y:=by rw[hy]at hi;exact(Option.some.inj hi).symm
    obtain⟨bZ,y',n',d',es,eG,bj,gE,eX,tU,qH,dE,eF⟩:=D.other t hs (sl:=bE) (hb.at d) hg (λd=>again_of_running (.inl hr) _) (λc b=>offersAt_of_not_blocked (by rw[hr];simp) c b) hy hz lF;refine⟨_,_,n'+sumTo gs.size q+1,bw.trans eG,aa,.inl ⟨bZ,w.at d',bE,q,J,n',y',rfl,eX,tU,qH,dE,?_,fD.at d',hJ,by rw[gE]⟩⟩;exact hp.other (λ_ x=>x.app _) (λl hl=>(D.apart l hl).2) hb.mA eF
   ·obtain⟨i1,i2⟩:=t.Aq eh ex;obtain⟨g',es,q',eG,hm,bj,dE⟩:=hb.leave i1 i2 hi hz d bE;refine⟨_,_,n+sumTo gs.size q'+1,bw.trans eG,aa,.inl ⟨_,w.at d,bE,q',J,n,y,rfl,qJ (λe=>eh e.symm) hg (again_of_running (.inl hr) _) _ _,qJ (λe=>ex e.symm) hy (dW.stays hb.chans hs lF) _ _,lF,dE,?_,fD.at d,hJ,by rw[iz]⟩⟩;exact hp.appMute (λ_ x=>x.app _) (λop aS=>by obtain⟨e,he,rfl⟩:=Conc.mem_ofEvents aS;exact touch_mute (hm e he)) (λop aS=>by obtain⟨e,he,rfl⟩:=Conc.mem_ofEvents aS;exact low_mute (hm e he) _)
 ·exact .inl JR
def cN.setChan {J:Nat->Prop}{w:World}{σ:Hp}(h:cN J w σ){c:Nat}(hc:J c)(cap:Nat)(buf:Array Value)(cl:Bool)(s r:Nat)(tm:Bool):cN J (w.setChan c cap buf cl s r tm) σ:=by refine⟨λ{b o} hb=>?_,h.fA,λb hj=>by simpa[World.setChan]using h.low b hj⟩;have:c≠b:=λe=>h.rJ hb (e▸hc);rw[heap_setChan_ne w _ _ _ _ _ _ this];exact h.heap hb
def SG(h j:Nat)(fh:FuncId)(ph:String)(fj:FuncId)(pj:String)(c k cap:Nat):∀op∈met h j fh ph fj pj c k cap,∀a,op.act≠.mark (.release a):=by intro op aS a;simp only[met,List.mem_toArray,List.mem_cons,List.not_mem_nil,or_false]at aS;rcases aS with rfl|rfl|rfl|rfl<;>simp
def lh.setChan{W:World}(h:lh W w)(c cap:Nat)(buf:Array Value)(cl:Bool)(s r:Nat)(tm:Bool):lh W (w.setChan c cap buf cl s r tm):=⟨h.os,h.tape,h.output⟩
def Duo.Base.UU{bZ:Array Goroutine}{u:Trace}(b:D.Base gs w T q){k':Nat}{cl:Bool}(hc:D.chans c)(hk:w.heap[c]? =some (.chan 0 #[] cl k k false))(hs:bZ.size=gs.size)(ho:∀i,0<i->i≠D.j->bZ[i]? =gs[i]?)(hd:∀i,Deaf (T++u) i=Deaf T i)(hn:∀op∈u,∀a,op.act≠.mark (.release a)):D.Base bZ (w.setChan c 0 #[] false k' k' false) (T++u) q:=by
 refine⟨by rw[hs];exact b.kR,λi x h1 h2 hx=>?_,λi hi=>?_,(hd 0).trans b.d0,(hd _).trans b.dj,?_,λc' cA=>?_,by simpa[World.setChan]using b.mA,b.q9.setChan _ _ _ _ _ _ _,b.nr.app hn⟩
 ·rw[ho i h1 h2]at hx;rw[hd];exact b.gI i x h1 h2 hx
 ·rw[hs]at hi;rw[hd];exact b.above i hi
 ·exact D.Jp w c k' hc b.k
 ·by_cases e:c=c'
  ·subst e;exact⟨k',heap_setChan_self w hk _ _ _ _ _ _⟩
  ·obtain⟨k0,h0⟩:=b.chans c' cA;exact⟨k0,by rw[heap_setChan_ne w _ _ _ _ _ _ e];exact h0⟩
def Duo.yg(D:Duo P)(a b h x:Nat)(sa sb:Seat)(c kk:Nat)(v:Value)(σ:Hp)(m:Machine)(T':Trace):Prop:=
 ∃bZ w' bE q' ga gb J' k fh ph fj pj T1,m=crowd bZ w' bE/\bZ[a]? =some (Go.Conc.served ga undef)/\sa.home ga/\bZ[b]? =some (Go.Conc.served gb (commResult sb.cases sb.shape kk v true))/\sb.home gb/\D.Base bZ w' T' q'/\cN J' w' σ/\(∀y,D.Hid y->J' y)/\
  c<w'.heap.size/\T'=T1++met a b fh ph fj pj c k 0/\dJ D.S D.Still D.Q D.j x w'.heap.size (Knows T1 h) T1/\Deaf T1 a=0/\Deaf T1 b=0
variable {S Q:Loc->Prop}{P:Program}
theorem Duo.meet (D:Duo P){a b:Nat}(t:D.gf a b){sa sb:Seat}{c kk:Nat}{v zs z:Value}(hc:D.chans c)(Ku:sa.cases= #[scase c v zs])(xo:sa.shape=.send)(FW:D.Fits sb)(hk:sb.cases[kk]? =some (rcase c z))
 (hu:∀(m:Nat) (cc:CommCase),m≠kk->sb.cases[m]? =some cc->cc.chan≠.chan (some c)) (gT:∀cc∈sb.cases,cc.send=none) {h x:Nat} (t':(h=a/\x=b)\/(h=b/\x=a))
 {gs:Array Goroutine} {w:World} {sl:Option (Nat×Nat)} {q:Nat->Nat} {J:Nat->Prop} {na nb:Nat} {ya yb:Goroutine} {σ:Hp} {T:Trace} (nV:gs[a]? =some ya) (oP:gs[b]? =some yb) (rz:dW P (a==0) D.KW D.Still D.B sa na ya) (rA:dW P (b==0) D.KW D.Still D.B sb nb yb)
 (hb:D.Base gs w T q) (hp:dJ D.S D.Still D.Q D.j x w.heap.size (Knows T h) T) (fD:cN J w σ) (hJ:∀y,D.Hid y->J y) (hn:0<na\/0<nb):
 ∃N m' T',runNT P N (crowd gs w sl) T=(.next m',T')/\D.yg a b h x sa sb c kk v σ m' T':=by
 have JW:D.Fits sa:=by intro cc cP;rw[Ku]at cP;simp only[List.mem_toArray,List.mem_cons,List.not_mem_nil,or_false]at cP;subst cP;exact⟨c,hc,rfl⟩
 let Inv:Nat->Machine->Trace->Prop:=λμ m T=>(∃gs w sl q J na nb ya yb,m=crowd gs w sl/\gs[a]? =some ya/\gs[b]? =some yb/\dW P (a==0) D.KW D.Still D.B sa na ya/\dW P (b==0) D.KW D.Still D.B sb nb yb/\D.Base gs w T q/\
  dJ D.S D.Still D.Q D.j x w.heap.size (Knows T h) T/\cN J w σ/\(∀y,D.Hid y->J y)/\(0<na\/0<nb)/\μ=na+nb+sumTo gs.size q+1)\/D.yg a b h x sa sb c kk v σ m T
 suffices step:∀μ m T,Inv μ m T->D.yg a b h x sa sb c kk v σ m T\/∃m' ops uO,stepT P m=(.next m',ops)/\uO<μ/\Inv uO m' (T++ops)by
  exact runs_until step _ _ _ (.inl ⟨gs,w,sl,q,J,na,nb,ya,yb,rfl,nV,oP,rz,rA,hb,hp,fD,hJ,hn,rfl⟩)
 clear hn hJ fD hp hb rA rz oP nV T ya yb na nb J q sl w gs;have hx:x=a\/x=b:=t'.elim (λe=>.inr e.2) (λe=>.inl e.2);have hh:h=a\/h=b:=t'.elim (λe=>.inl e.1) (λe=>.inr e.1)
 have quiet:∀{p n:Nat} {T:Trace} {fn:FuncId} {pos:String} {es:Array Event},(p=a\/p=b)->dJ D.S D.Still D.Q D.j x n (Knows T h) T->D.B<=n->(∀e∈es,EvC D.Still D.B e)->
  dJ D.S D.Still D.Q D.j x n (Knows (T++MemOp.ofEvents p fn pos es) h) (T++MemOp.ofEvents p fn pos es):=by
  intro p n T fn pos es hp H hB eF;by_cases e:p=x
  ·subst e;exact H.other (λ_ z=>z.app _) (λl hl=>(D.apart l hl).2) hB eF
  ·have e':p=h:=by
    rcases t' with⟨rfl,rfl⟩|⟨rfl,rfl⟩
    ·exact hp.resolve_right e
    ·exact hp.resolve_left e
   subst e';obtain⟨h1,h2,h3,_⟩:=evC_ops (i:=p) (fn:=fn) (pos:=pos) eF
   exact H.appH h1 (λop aS b hb=>by
    obtain⟨b1,b2⟩:=h2 op aS b hb
    exact⟨λy=>absurd y (D.apart _ b2).1,λ_=>b1,λy=>absurd y (D.apart _ b2).2⟩) (λop aS=>MemAct.low_mono hB (h3 op aS))
 rintro μ m T (⟨gs,w,sl,q,J,na,nb,ya,yb,rfl,nV,oP,rz,rA,hb,hp,fD,hJ,hn,rfl⟩|JR)
 case inr=>exact .inl JR
 right;have Kv:=dW.status rz;have tR:=dW.status rA
 have jW:∃(i:Nat) (g:Goroutine),gs[i]? =some g/\g.status=.running:=by
  rcases hn with hn|hn
  ·exact⟨a,ya,nV,Kv.elim (·.1) (λz=>aa)⟩
  ·exact⟨b,yb,oP,tR.elim (·.1) (λz=>aa)⟩
 obtain⟨i,z',d,bE,hi,hz,bw⟩:=crowd_pick (P:=P) (w:=w) (sl:=sl) (hb.awake t nV oP (Kv.elim (λa=>.inl a.1) (λa=>.inr (.inl a.1))) (tR.elim (λa=>.inl a.1) (λa=>.inr (.inl a.1)))) jW;have lZ:=hb.at d;by_cases ea:i=a
 ·
  subst ea;obtain rfl:z'=ya:=by rw[nV]at hi;exact(Option.some.inj hi).symm
  rcases tR with⟨vC,vz⟩|⟨eS,rfl⟩
  ·
   obtain⟨bZ,y',n',d',es,eG,bj,gE,eX,tU,qH,dE,eF⟩:=D.other t.symm JW (sl:=bE) lZ oP (λd=>again_of_running (.inl vC) _) (λc b=>offersAt_of_not_blocked (by rw[vC];simp) c b) nV hz rz;exact⟨_,_,n'+nb+sumTo gs.size q+1,bw.trans eG,aa,.inl ⟨bZ,w.at d',bE,q,J,n',nb,y',yb,rfl,tU,eX,qH,rA,dE,quiet (.inl rfl) hp hb.mA eF,fD.at d',hJ,.inr vz,by rw[gE]⟩⟩
  ·rcases dW.pick rz hz (D.Cz _ lZ.k)with⟨cO,es,k,rfl,qu,eF,lG⟩|⟨n',y',d',es,bj,mP,eF,lG,qH⟩
   ·
    obtain⟨pB,gb,rfl,adF⟩:∃pB gb,yb=parked gb sb.cases sb.shape/\AtIn P (b==0) D.KW D.Still D.B sb pB gb:=by
     rcases rA with⟨k',h0,_⟩|⟨_,pB,gb,e,h0⟩
     ·omega
     ·exact⟨pB,gb,e,h0⟩
    obtain⟨kc,qD⟩:=lZ.chans c hc;rw[Ku,xo]at lG
    have Kj:partners (gs.setIfInBounds i ph) c false=[(b,kk)]:=by rw[Uv lZ t.symm oP,offersAt_parked_at hk hu];rfl
    have hm:=crowd_send_meets_sel (P:=P) (sl:=bE) nV lG qD t.ne.symm oP hk Kj;refine⟨_,_,0,bw.trans hm,aa,.inr ⟨_,_,bE,q,cO,gb,J,kc,cO.frame.fn,cO.frame.place,gb.frame.fn,gb.frame.place,T++MemOp.ofEvents i z'.frame.fn z'.frame.place es,rfl,?_,qu.2.2.2.2.1,?_,adF.2.2.2.2.1,?_,(fD.at d).setChan (hJ c (.inr (.inl hc))) _ _ _ _ _ _,hJ,?_,by simp[met],?_,?_,?_⟩⟩
    ·rw[Array.getElem?_setIfInBounds_self_of_lt (by simpa using hb.lt t.left)];rfl
    ·rw[Array.getElem?_setIfInBounds_ne t.ne,Array.getElem?_setIfInBounds_self_of_lt (by simpa using hb.lt t.right)];rfl
    ·rw[<-Array.append_assoc];refine Duo.Base.UU (lZ.set (p:=i) t.left z' (yz eF)) hc qD al (λj h1 h2=>?_) (λj=>Nd _ _ _ _ _ _ _ _) (SG _ _ _ _ _ _ _ _ _);have e1:i≠j:=by rcases t with⟨rfl,rfl⟩|⟨rfl,rfl⟩<;>omega
     have e2:b≠j:=by rcases t with⟨rfl,rfl⟩|⟨rfl,rfl⟩<;>omega
     simp[Array.getElem?_setIfInBounds_ne e1,Array.getElem?_setIfInBounds_ne e2]
    ·simpa[World.setChan]using(Array.getElem?_eq_some_iff.1 qD).1
    ·have:=quiet (fn:=z'.frame.fn) (pos:=z'.frame.place) (p:=i) (.inl rfl) hp hb.mA eF;simp only[World.setChan,Array.size_setIfInBounds];exact this
    ·rw[Deaf_own,deafBehind_still (Pl eF)];exact hb.deaf t.left
    ·rw[Deaf_other T t.ne.symm.symm _ (λop aS=>by obtain⟨e,_,rfl⟩:=Conc.mem_ofEvents aS;rfl)];exact hb.deaf t.right
   ·refine⟨_,_,n'+0+sumTo gs.size q+1,bw.trans (runT_crowd_go nV lG),aa,.inl ⟨_,w.at d',bE,q,J,n',0,y',yb,rfl,rI (hb.lt t.left) _ _,qJ t.ne.symm oP (dW.stays (hb.at d').chans FW rA) _ _,qH,rA,(hb.at d').step t.left (hb.at d').k hb.chans (Nat.le_refl _) (hb.q9.at d') (yz eF),quiet (.inl rfl) hp hb.mA eF,fD.at d',hJ,?_,by rw[iz]⟩⟩;exact .inl mP
 ·by_cases eb:i=b
  ·
   subst eb;obtain rfl:z'=yb:=by rw[oP]at hi;exact(Option.some.inj hi).symm
   rcases Kv with⟨RA,yX⟩|⟨gO,rfl⟩
   ·
    obtain⟨bZ,y',n',d',es,eG,bj,gE,eX,tU,qH,dE,eF⟩:=D.other t FW (sl:=bE) lZ nV (λd=>again_of_running (.inl RA) _) (λc b=>offersAt_of_not_blocked (by rw[RA];simp) c b) oP hz rA;exact⟨_,_,na+n'+sumTo gs.size q+1,bw.trans eG,aa,.inl ⟨bZ,w.at d',bE,q,J,na,n',ya,y',rfl,eX,tU,rz,qH,dE,quiet (.inr rfl) hp hb.mA eF,fD.at d',hJ,.inl yX,by rw[gE]⟩⟩
   ·rcases dW.pick rA hz (D.Cz _ lZ.k)with⟨cO,es,k,rfl,qu,eF,lG⟩|⟨n',y',d',es,bj,mP,eF,lG,qH⟩
    ·
     obtain⟨pB,ga,rfl,adE⟩:∃pB ga,ya=parked ga sa.cases sa.shape/\AtIn P (a==0) D.KW D.Still D.B sa pB ga:=by
      rcases rz with⟨k',h0,_⟩|⟨_,pB,ga,e,h0⟩
      ·omega
      ·exact⟨pB,ga,e,h0⟩
     rw[Ku,xo]at nV;obtain⟨kc,qD⟩:=lZ.chans c hc
     have Kj:partners (gs.setIfInBounds i ph) c true=[(a,0)]:=by rw[Uv lZ t nV,offersAt_parked_send];simp
     have dY:∀(m:Nat) (c':CommCase),m≠kk->sb.cases[m]? =some c'->NoWays (w.at d) (gs.setIfInBounds i ph) c':=by intro m c' hm cA;obtain⟨r,eU,bY⟩:=FW c' (Array.mem_of_getElem? cA);have aE:c≠r:=λe=>hu m c' hm cA (e▸bY);refine LA bY (lZ.chans r eU) (Eb lZ t nV ?_);rw[gT c' (Array.mem_of_getElem? cA)];show offersAt _ r true=[];rw[offersAt_parked_send,if_neg aE]
     have hm:=crowd_sel_recv_meets (P:=P) (sl:=bE) oP lG hk dY qD t.ne nV Kj;refine⟨_,_,0,bw.trans hm,aa,.inr ⟨_,_,bE,q,ga,cO,J,kc,ga.frame.fn,ga.frame.place,cO.frame.fn,cO.frame.place,T++MemOp.ofEvents i z'.frame.fn z'.frame.place es,rfl,?_,adE.2.2.2.2.1,?_,qu.2.2.2.2.1,?_,(fD.at d).setChan (hJ c (.inr (.inl hc))) _ _ _ _ _ _,hJ,?_,by simp[met],?_,?_,?_⟩⟩
     ·rw[Array.getElem?_setIfInBounds_ne t.ne.symm,Array.getElem?_setIfInBounds_self_of_lt (by simpa using hb.lt t.left)];rfl
     ·rw[Array.getElem?_setIfInBounds_self_of_lt (by simpa using hb.lt t.right)];rfl
     ·rw[<-Array.append_assoc];refine Duo.Base.UU (lZ.set (p:=i) t.right z' (yz eF)) hc qD al (λj h1 h2=>?_) (λj=>Nd _ _ _ _ _ _ _ _) (SG _ _ _ _ _ _ _ _ _);have e1:i≠j:=by rcases t with⟨rfl,rfl⟩|⟨rfl,rfl⟩<;>omega
      have e2:a≠j:=by rcases t with⟨rfl,rfl⟩|⟨rfl,rfl⟩<;>omega
      simp[Array.getElem?_setIfInBounds_ne e1,Array.getElem?_setIfInBounds_ne e2]
     ·simpa[World.setChan]using(Array.getElem?_eq_some_iff.1 qD).1
     ·have:=quiet (fn:=z'.frame.fn) (pos:=z'.frame.place) (p:=i) (.inr rfl) hp hb.mA eF;simp only[World.setChan,Array.size_setIfInBounds];exact this
     ·rw[Deaf_other T t.ne.symm _ (λop aS=>by obtain⟨e,_,rfl⟩:=Conc.mem_ofEvents aS;rfl)];exact hb.deaf t.left
     ·rw[Deaf_own,deafBehind_still (Pl eF)];exact hb.deaf t.right
    ·exact⟨_,_,0+n'+sumTo gs.size q+1,bw.trans (runT_crowd_go oP lG),aa,.inl ⟨_,w.at d',bE,q,J,0,n',ya,y',rfl,qJ t.ne nV (dW.stays (hb.at d').chans JW rz) _ _,rI (hb.lt t.right) _ _,rz,qH,(hb.at d').step t.right (hb.at d').k hb.chans (Nat.le_refl _) (hb.q9.at d') (yz eF),quiet (.inr rfl) hp hb.mA eF,fD.at d',hJ,.inr mP,by rw[iz]⟩⟩
  ·obtain⟨i1,i2⟩:=t.Aq ea eb;obtain⟨g',es,q',eG,hm,bj,dE⟩:=hb.leave i1 i2 hi hz d bE;refine⟨_,_,na+nb+sumTo gs.size q'+1,bw.trans eG,aa,.inl ⟨_,w.at d,bE,q',J,na,nb,ya,yb,rfl,qJ (λe=>ea e.symm) nV (dW.stays hb.chans JW rz) _ _,qJ (λe=>eb e.symm) oP (dW.stays hb.chans FW rA) _ _,rz,rA,dE,?_,fD.at d,hJ,hn,by rw[iz]⟩⟩;exact hp.appMute (λ_ x=>x.app _) (λop aS=>by obtain⟨e,he,rfl⟩:=Conc.mem_ofEvents aS;exact touch_mute (hm e he)) (λop aS=>by obtain⟨e,he,rfl⟩:=Conc.mem_ofEvents aS;exact low_mute (hm e he) _)
end
end Go.Qw
