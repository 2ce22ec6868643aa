/- 9 -/
import Derived.Conc.TokenFlight
import Derived.Conc.TokenWalk
import Derived.Test.YtpiabknabfbfhaaGreatDoorFramed07
set_option linter.all false
set_option maxRecDepth 100000
set_option maxHeartbeats 8000000
namespace Go.Qw
open Go Go.Conc
structure dN (S Still Q:Loc->Prop) (jw o B:Nat) (K:Nat->Prop) (t:Trace):Prop where
 clean:∀said,¬Race said t
 known:∀i a,touchAt t i=some a->a.loc.isMemory=true->K i\/(S a.loc/\a.kind=.atomic/\¬t.counts i)\/(t.g? i=some o/\a.write=false/\Still a.loc)
 wrote:∀i a,touchAt t i=some a->a.write=true->Still a.loc->Knows t o i
 pure:∀i a,touchAt t i=some a->Q a.loc->a.kind≠.plain\/Knows t jw i
 seen:∀op∈t,op.act.low B
section
variable {S:Loc->Prop}{BV:Loc->Prop}{Q:Loc->Prop}{jw:Nat}{o:Nat}{h:Nat}{K':Nat->Prop}{t:Trace}{u:Trace}
variable {Still:Loc->Prop}{B:Nat}{K:Nat->Prop}
def dN.mono {B':Nat}(H:dN S Still Q jw o B K t)(hB:B<=B'):dN S Still Q jw o B' K t:=⟨H.clean,H.known,H.wrote,H.pure,λop aR=>MemAct.low_mono hB (H.seen op aR)⟩
def dN.an5 {S':Loc->Prop}(H:dN S Still Q jw o B K t)(hS:∀l,S l->S' l):dN S' Still Q jw o B K t:=
 ⟨H.clean,λi a ha hm=>(H.known i a ha hm).imp id (λx=>x.imp (λy=>⟨hS _ y.1,y.2⟩) id),H.wrote,H.pure,H.seen⟩
def dN.old_known (H:dN S Still Q jw o B K t)(hK:∀i,K i->K' i){i:Nat}{a:Touch}{x:MemOp}(cY:t[i]? =some x)(bH:x.act.touch?=some a)(hm:a.loc.isMemory=true):
 K' i\/(S a.loc/\a.kind=.atomic/\¬(t++u).counts i)\/((t++u).g? i=some o/\a.write=false/\Still a.loc):=by
 have hi:=lt_size_of_getElem? cY;rcases H.known i a (by rw[touchAt_of cY];exact bH) hm with x|⟨x,y,z⟩|⟨x,y,z⟩
 ·exact .inl (hK i x)
 ·exact .inr (.inl ⟨x,y,λc=>z ((counts_old hi).1 c)⟩)
 ·exact .inr (.inr ⟨by rw[g?_old hi];exact x,y,z⟩)
def dN.appMute (H:dN S Still Q jw o B K t)(hK:∀i,K i->K' i)(hn:∀op∈u,op.act.touch?=none)(hl:∀op∈u,op.act.low B):dN S Still Q jw o B K' (t++u):=by
 refine⟨λsaid=>noRace_appendMute (H.clean said) hn,λi a ha hm=>?_,λi a ha hw hS=>?_,λi a ha hq=>?_,seen_app H.seen hl⟩
 ·obtain⟨x,hx,bH⟩:=touch_of ha;rcases getElem?_append_cases hx with⟨_,cY⟩|⟨_,dx⟩
  ·exact H.old_known hK cY bH hm
  ·rw[hn x dx]at bH;cases bH
 ·obtain⟨x,hx,bH⟩:=touch_of ha;rcases getElem?_append_cases hx with⟨_,cY⟩|⟨_,dx⟩
  ·exact(H.wrote i a (by rw[touchAt_of cY];exact bH) hw hS).app u
  ·rw[hn x dx]at bH;cases bH
 ·obtain⟨x,hx,bH⟩:=touch_of ha;rcases getElem?_append_cases hx with⟨_,cY⟩|⟨_,dx⟩
  ·exact(H.pure i a (by rw[touchAt_of cY];exact bH) hq).imp id (·.app u)
  ·rw[hn x dx]at bH;cases bH
def dN.appRead (H:dN S Still Q jw o B K t)(hK:∀i,K i->K' i)(JF:∀l,Still l->¬Q l)(hu:∀op∈u,op.g=o)(hr:∀op∈u,∀b,op.act.touch?=some b->b.write=false/\Still b.loc)(hl:∀op∈u,op.act.low B):
 dN S Still Q jw o B K' (t++u):=by
 refine⟨λsaid=>noRace_append (H.clean said) hu λi a ha op aR b hb hc=>?_,λi a ha hm=>?_,λi a ha hw hS=>?_,λi a ha hq=>?_,seen_app H.seen hl⟩
 ·obtain⟨nU,AG⟩:=hr op aR b hb;rcases hc.2.2.1 with x|x
  ·exact H.wrote i a ha x (hc.1▸AG)
  ·rw[nU]at x;cases x
 ·obtain⟨x,hx,bH⟩:=touch_of ha;rcases getElem?_append_cases hx with⟨_,cY⟩|⟨_,dx⟩
  ·exact H.old_known hK cY bH hm
  ·exact .inr (.inr ⟨by rw[g?_of hx,hu x dx],hr x dx a bH⟩)
 ·obtain⟨x,hx,bH⟩:=touch_of ha;rcases getElem?_append_cases hx with⟨_,cY⟩|⟨_,dx⟩
  ·exact(H.wrote i a (by rw[touchAt_of cY];exact bH) hw hS).app u
  ·rw[(hr x dx a bH).1]at hw;cases hw
 ·obtain⟨x,hx,bH⟩:=touch_of ha;rcases getElem?_append_cases hx with⟨_,cY⟩|⟨_,dx⟩
  ·exact(H.pure i a (by rw[touchAt_of cY];exact bH) hq).imp id (·.app u)
  ·exact absurd hq (JF _ (hr x dx a bH).2)
def dN.appH (H:dN S Still Q jw o B (Knows t h) t)(hu:∀op∈u,op.g=h)(hs:∀op∈u,∀b,op.act.touch?=some b->(S b.loc->b.kind≠.plain)/\(Still b.loc->b.write=false)/\(Q b.loc->b.kind≠.plain))
 (hl:∀op∈u,op.act.low B):dN S Still Q jw o B (Knows (t++u) h) (t++u):=by
 refine⟨λsaid=>noRace_append (H.clean said) hu λi a ha op aR b hb hc=>?_,λi a ha hm=>?_,λi a ha hw hS=>?_,λi a ha hq=>?_,seen_app H.seen hl⟩
 ·obtain⟨AG,hbT,_⟩:=hs op aR b hb;rcases H.known i a ha hc.2.1 with hk|⟨x,y,_⟩|⟨_,x,y⟩
  ·exact hk
  ·obtain⟨_,_,_,xe⟩:=hc;rw[y]at xe;rcases xe with z|z|⟨_,z,_⟩
   ·cases z
   ·exact absurd z (AG (by rw[<-‹a.loc=b.loc›];exact x))
   ·cases z
  ·have nU:=hbT (hc.1▸y);rcases hc.2.2.1 with z|z
   ·rw[x]at z;cases z
   ·rw[nU]at z;cases z
 ·obtain⟨x,hx,bH⟩:=touch_of ha;rcases getElem?_append_cases hx with⟨_,cY⟩|⟨_,dx⟩
  ·exact H.old_known (λ_ x=>x.app u) cY bH hm
  ·have:=knows_own hx;rw[hu x dx]at this;exact .inl this
 ·obtain⟨x,hx,bH⟩:=touch_of ha;rcases getElem?_append_cases hx with⟨_,cY⟩|⟨_,dx⟩
  ·exact(H.wrote i a (by rw[touchAt_of cY];exact bH) hw hS).app u
  ·rw[(hs x dx a bH).2.1 hS]at hw;cases hw
 ·obtain⟨x,hx,bH⟩:=touch_of ha;rcases getElem?_append_cases hx with⟨_,cY⟩|⟨_,dx⟩
  ·exact(H.pure i a (by rw[touchAt_of cY];exact bH) hq).imp id (·.app u)
  ·exact .inl ((hs x dx a bH).2.2 hq)
def dN.pass {s r:Nat}(H:dN S Still Q jw r B (Knows t s) t)(xb:∀l,BV l->l.isMemory=true/\¬S l)(hn:∀op∈u,op.act.touch?=none)(hl:∀op∈u,op.act.low B)
 (he:∀i,Knows t s i->Knows (t++u) r i):dN S BV Q jw s B (Knows (t++u) r) (t++u):=by
 refine⟨λsaid=>noRace_appendMute (H.clean said) hn,λi a ha hm=>?_,λi a ha hw hS=>?_,λi a ha hq=>?_,seen_app H.seen hl⟩
 ·obtain⟨x,hx,bH⟩:=touch_of ha;rcases getElem?_append_cases hx with⟨hi,cY⟩|⟨_,dx⟩
  ·rcases H.known i a (by rw[touchAt_of cY];exact bH) hm with y|⟨y,z,v⟩|⟨y,z,v⟩
   ·exact .inl (he i y)
   ·exact .inr (.inl ⟨y,z,λc=>v ((counts_old hi).1 c)⟩)
   ·have:=knows_own hx;rw[show x.g=r from by have:=g?_of cY;rw[y]at this;exact(Option.some.inj this).symm]at this;exact .inl this
  ·rw[hn x dx]at bH;cases bH
 ·obtain⟨x,hx,bH⟩:=touch_of ha;rcases getElem?_append_cases hx with⟨hi,cY⟩|⟨_,dx⟩
  ·rcases H.known i a (by rw[touchAt_of cY];exact bH) (xb _ hS).1 with y|⟨y,_⟩|⟨_,z,_⟩
   ·exact y.app u
   ·exact absurd y (xb _ hS).2
   ·rw[hw]at z;cases z
  ·rw[hn x dx]at bH;cases bH
 ·obtain⟨x,hx,bH⟩:=touch_of ha;rcases getElem?_append_cases hx with⟨_,cY⟩|⟨_,dx⟩
  ·exact(H.pure i a (by rw[touchAt_of cY];exact bH) hq).imp id (·.app u)
  ·rw[hn x dx]at bH;cases bH
end
section
variable {S:Loc->Prop}{Q:Loc->Prop}{jw:Nat}{o:Nat}{h:Nat}{t:Trace}
variable {B:Nat}
def dN.ofPast (h:Past S B t)(hQ:∀l,¬Q l):dN S (λ_=>False) Q jw o B (Knows t 0) t:=by
 refine⟨h.clean,λi a ha hm=>?_,λ_ _ _ _ x=>x.elim,λi a ha x=>absurd x (hQ _),h.seen⟩;by_cases hk:Knows t 0 i
 ·exact .inl hk
 ·rcases h.known i a ha hm with x|⟨x,y⟩
  ·exact absurd x hk
  ·refine .inr (.inl ⟨x,y,λhc=>hk ?_⟩);obtain⟨op,aR,_⟩:=touch_of ha;by_cases e:op.g=0
   ·rw[<-e];exact knows_own aR
   ·obtain⟨j,hj,hb⟩:=h.over i op.g (g?_of aR) e hc;unfold Trace.g? at hj;obtain⟨z,hz,KP⟩:=Option.map_eq_some_iff.1 hj;exact⟨j,z,hz,KP,.inr hb⟩
def dN.toPast (H:dN S (λ_=>False) Q jw o B (Knows t 0) t)(hd:Deaf t 0=0):Past S B t:=by
 refine⟨H.clean,λi a ha hm=>?_,λi g hg aE hc=>?_,hd,H.seen⟩
 ·rcases H.known i a ha hm with x|⟨x,y,_⟩|⟨_,_,x⟩
  ·exact .inl x
  ·exact .inr ⟨x,y⟩
  ·exact x.elim
 ·obtain⟨x,hx,hm,_⟩:=id hc;rcases H.known i x hx hm with⟨q,z,hq,hz,hb⟩|⟨_,_,y⟩|⟨_,_,y⟩
  ·refine⟨q,by rw[g?_of hq,hz],?_⟩;rcases hb with rfl|hb
   ·rw[g?_of hq,hz]at hg;exact absurd (Option.some.inj hg).symm aE
   ·exact hb
  ·exact absurd hc y
  ·exact y.elim
def Sh {s r:Nat}(hs:Deaf t s=0)(hr:Deaf t r=0)(fh:FuncId)(ph:String)(fj:FuncId)(pj:String)(c k cap:Nat){i:Nat}(h:Knows t s i):Knows (t++met s r fh ph fj pj c k cap) r i:=by
 have hq:∀g,∀op∈met s r fh ph fj pj c k cap,∀d,deafStep g d op=d:=λg=>met_quiet s r fh ph fj pj c k cap g;have e0:(t++met s r fh ph fj pj c k cap)[t.size]? =some {g:=s,fn:=fh,pos:=ph,act:=.send c k}:=by simp[met]
 have e3:(t++met s r fh ph fj pj c k cap)[t.size+3]? =some {g:=r,fn:=fj,pos:=pj,act:=.recvDone c k}:=by simp[met]
 have Ap:HappensBefore (t++met s r fh ph fj pj c k cap) t.size (t.size+3):=
  Relation.TransGen.single (.inr ⟨.handOver (act?_of e0) (act?_of e3),⟨s,g?_of e0,by rw[deaf_old (Nat.le_refl _)];exact hs⟩,⟨r,g?_of e3,by rw[deaf_quiet (hq r) 3 (by simp[met])];exact hr⟩⟩)
 exact⟨t.size+3,_,e3,rfl,.inr ((h.hb_new (Nat.le_refl _) e0 rfl).trans Ap)⟩
def Ni {s r:Nat}(fh:FuncId)(ph:String)(fj:FuncId)(pj:String)(c k cap g:Nat):Deaf (t++met s r fh ph fj pj c k cap) g=Deaf t g:=Deaf_quiet (met_quiet s r fh ph fj pj c k cap g)
def kH (h c:Nat)(fh:FuncId)(ph:String)(fc:FuncId):Trace:=#[{g:=h,fn:=fh,pos:=ph,act:=.go c},{g:=c,fn:=fc,pos:=ph,act:=.start}]
def ae2 (h c:Nat)(fh:FuncId)(ph:String)(fc:FuncId):∀op∈kH h c fh ph fc,op.act.touch?=none:=by intro op aR;simp only[kH,List.mem_toArray,List.mem_cons,List.not_mem_nil,or_false]at aR;rcases aR with rfl|rfl<;>rfl
def Rc (h c:Nat)(fh:FuncId)(ph:String)(fc:FuncId)(g:Nat):∀op∈kH h c fh ph fc,∀d,deafStep g d op=d:=by intro op aR d;simp only[kH,List.mem_toArray,List.mem_cons,List.not_mem_nil,or_false]at aR;rcases aR with rfl|rfl<;>rfl
def ae1 (h c:Nat)(fh:FuncId)(ph:String)(fc:FuncId)(B:Nat):∀op∈kH h c fh ph fc,op.act.low B:=by intro op aR;simp only[kH,List.mem_toArray,List.mem_cons,List.not_mem_nil,or_false]at aR;rcases aR with rfl|rfl<;>trivial
def aid {h c:Nat}(hh:Deaf t h=0)(hc:Deaf t c=0)(fh:FuncId)(ph:String)(fc:FuncId){i:Nat}(k:Knows t h i):Knows (t++kH h c fh ph fc) c i:=by
 have e0:(t++kH h c fh ph fc)[t.size]? =some {g:=h,fn:=fh,pos:=ph,act:=.go c}:=by simp[kH]
 have e1:(t++kH h c fh ph fc)[t.size+1]? =some {g:=c,fn:=fc,pos:=ph,act:=.start}:=by simp[kH]
 have Ap:HappensBefore (t++kH h c fh ph fc) t.size (t.size+1):=
  Relation.TransGen.single (.inr ⟨.spawn (act?_of e0) (act?_of e1) (g?_of e1),⟨h,g?_of e0,by rw[deaf_old (Nat.le_refl _)];exact hh⟩,⟨c,g?_of e1,by rw[deaf_quiet (Rc h c fh ph fc c) 1 (by simp[kH])];exact hc⟩⟩)
 exact⟨t.size+1,_,e1,rfl,.inr ((k.hb_new (Nat.le_refl _) e0 rfl).trans Ap)⟩
def dN.hire {S Still Q VI:Loc->Prop}{aln ahQ B c:Nat}{t:Trace}(H:dN S (λ_=>False) VI ahQ aln B (Knows t 0) t)(hS:∀l,Still l->l.isMemory=true/\¬S l)(hQ:∀l,Q l->l.isMemory=true)(hh:Deaf t 0=0)(hc:Deaf t c=0)(fh:FuncId)(ph:String)(fc:FuncId):
 dN S Still Q c 0 B (Knows (t++kH 0 c fh ph fc) c) (t++kH 0 c fh ph fc):=by
 have hn:=ae2 0 c fh ph fc;have kn:∀{i},Knows t 0 i->Knows (t++kH 0 c fh ph fc) c i:=λk=>aid hh hc fh ph fc k;refine⟨λsaid=>noRace_appendMute (H.clean said) hn,λi a ha hm=>?_,λi a ha hw bt=>?_,λi a ha hq=>?_,seen_app H.seen (ae1 _ _ _ _ _ B)⟩
 ·obtain⟨x,hx,bH⟩:=touch_of ha;rcases getElem?_append_cases hx with⟨hi,cY⟩|⟨_,dx⟩
  ·rcases H.known i a (by rw[touchAt_of cY];exact bH) hm with y|⟨y,z,v⟩|⟨_,_,v⟩
   ·exact .inl (kn y)
   ·exact .inr (.inl ⟨y,z,λc=>v ((counts_old hi).1 c)⟩)
   ·exact v.elim
  ·rw[hn x dx]at bH;cases bH
 ·obtain⟨x,hx,bH⟩:=touch_of ha;rcases getElem?_append_cases hx with⟨hi,cY⟩|⟨_,dx⟩
  ·rcases H.known i a (by rw[touchAt_of cY];exact bH) (hS _ bt).1 with y|⟨y,_⟩|⟨_,_,v⟩
   ·exact y.app _
   ·exact absurd y (hS _ bt).2
   ·exact v.elim
  ·rw[hn x dx]at bH;cases bH
 ·obtain⟨x,hx,bH⟩:=touch_of ha;rcases getElem?_append_cases hx with⟨hi,cY⟩|⟨_,dx⟩
  ·rcases H.known i a (by rw[touchAt_of cY];exact bH) (hQ _ hq)with y|⟨_,y,_⟩|⟨_,_,v⟩
   ·exact .inr (kn y)
   ·exact .inl (by rw[y];exactλe=>by cases e)
   ·exact v.elim
  ·rw[hn x dx]at bH;cases bH
end
section
variable (P:Program)(main:Bool)(K:World->Prop)(Still:Loc->Prop)(B:Nat)(s:Seat)
def Way:Nat->Goroutine->Prop
 |0,g=>∃cQ,AtIn P main K Still B s g cQ
 |n+1,g=>(∃cQ,AtIn P main K Still B s g cQ)\/(g.status=.running/\∀w,K w->(stepG P main g w).goes λg' w' es=>AtRel w w'/\(∀e∈es,EvC Still B e)/\Way n g')
def dY (n:Nat)(g:Goroutine):Prop:=
 (∃k,n=k+1/\Way P main K Still B s k g)\/(n=0/\∃pL cQ,g=parked cQ s.cases s.shape/\AtIn P main K Still B s pL cQ)
end
section
variable {h:Nat}
variable {P:Program}{main:Bool}{K:World->Prop}{Still:Loc->Prop}{B:Nat}{s:Seat}
def Way.running:∀{n:Nat} {g:Goroutine},Way P main K Still B s n g->g.status=.running
 |0,_,⟨_,h⟩=>h.1
 |_+1,_,h=>h.elim (λ⟨_,x⟩=>x.1) (λx=>x.1)
def Way.mono:∀{n m:Nat} {g:Goroutine},n<=m->Way P main K Still B s n g->Way P main K Still B s m g
 |0,0,_,_,h=>h
 |0,_+1,_,_,h=>.inl h
 |_+1,0,_,hn,_=>absurd hn aa
 |n+1,m+1,g,hn,h=>by
  refine h.imp id λ⟨hr,x⟩=>⟨hr,λw hw=>?_⟩;have:=x w hw
  cases hg:stepG P main g w<;>rw[hg]at this<;>first|exact this.elim|skip
  exact⟨this.1,this.2.1,Way.mono aa this.2.2⟩
def dY.status {n:Nat}{g:Goroutine}(h:dY P main K Still B s n g):(g.status=.running/\0<n)\/(g.status=.blocked/\n=0):=by
 rcases h with⟨k,rfl,hg⟩|⟨rfl,_,cQ,rfl,_⟩
 ·exact .inl ⟨hg.running,aa⟩
 ·exact .inr ⟨rfl,rfl⟩
def dY.pick {n:Nat}{y:Goroutine}{w:World}(h:dY P main K Still B s n y)(hr:y.status=.running)(hK:K w):
 (∃cQ es k,n=k+1/\AtIn P main K Still B s y cQ/\(∀e∈es,EvC Still B e)/\stepG P main y w=.comm cQ s.cases true s.shape w es)\/
  ∃n' y' d es,n'<n/\0<n'/\(∀e∈es,EvC Still B e)/\stepG P main y w=.go y' (w.at d) es/\dY P main K Still B s n' y':=by
 rcases h with⟨k,rfl,hg⟩|⟨rfl,_,cQ,rfl,_⟩
 ·have stop:(∃cQ,AtIn P main K Still B s y cQ)->∃cQ es k',k+1=k'+1/\AtIn P main K Still B s y cQ/\(∀e∈es,EvC Still B e)/\stepG P main y w=.comm cQ s.cases true s.shape w es:=by rintro⟨cQ,ha⟩;obtain⟨_,_,_,_,_,es,eG,bt⟩:=id ha;exact⟨cQ,es,k,rfl,ha,eG,bt w hK⟩
  cases k with
  |zero=>exact .inl (stop hg)
  |succ k=>
   rcases hg with x|⟨_,gu⟩
   ·exact .inl (stop x)
   ·right;have:=gu w hK
    cases hgo:stepG P main y w<;>rw[hgo]at this<;>first|exact this.elim|skip
    rename_i y' w' es;obtain⟨⟨d,rfl⟩,eG,ff⟩:=this;exact⟨k+1,y',d,es,aa,aa,eG,rfl,.inl ⟨k,rfl,ff⟩⟩
 ·cases hr
end
section
open Go.ConcN (sumTo upd sumTo_upd upd_ne upd_same)
variable {S Q:Loc->Prop}
structure Duo (P:Program) where
 W:World
 j:Nat
 chans:Nat->Prop
 K:World->Prop
 KW:World->Prop
 HK:Nat->Prop
 S:Loc->Prop
 Still:Loc->Prop
 Q:Loc->Prop
 B:Nat
 hj:0<j
 CB:∀w,K w->KW w
 CC:∀w d,K w->K (w.at d)
 Jy:∀w c k,chans c->K w->K (w.setChan c 0 #[] false k k false)
 cell:∀l,S l\/Still l\/Q l->∃a:Addr,l=.cell a
 apart:∀l,Still l->¬S l/\¬Q l
section
variable {S:Loc->Prop}{Q:Loc->Prop}{h:Nat}
variable {P:Program}(D:Duo P)
def Duo.Hid (b:Nat):Prop:=D.HK b\/D.chans b\/∃a:Addr,a.block=b/\(D.S (.cell a)\/D.Q (.cell a))
structure Duo.Deep:Prop where
 k:∀w w',(∀b,D.HK b->w'.heap[b]? =w.heap[b]?)->D.K w->D.K w'
 still:∀a:Addr,D.Still (.cell a)->D.HK a.block
def Open (c:Nat)(w:World):Prop:=∃k,w.heap[c]? =some (.chan 0 #[] false k k false)
def Calm (e:Event):Prop:=(e.loc≠.mark .disable/\e.loc≠.mark .enable)/\∀a,e.loc≠.mark (.release a)
structure Duo.Base (gs:Array Goroutine) (w:World) (T:Trace) (q:Nat->Nat):Prop where
 kZ:D.j<gs.size
 gK:∀i g,0<i->i≠D.j->gs[i]? =some g->QuitsD P (q i) (Deaf T i) g
 above:∀i,gs.size<=i->Deaf T i=0
 d0:Deaf T 0=0
 dj:Deaf T D.j=0
 k:D.K w
 chans:∀c,D.chans c->Open c w
 mF:D.B<=w.heap.size
 rp:lF D.W w
 nr:pF D.Q T
def Duo.Of (p:Nat):Prop:=p=0\/p=D.j
def Duo.gf (h x:Nat):Prop:=(h=0/\x=D.j)\/(h=D.j/\x=0)
end
variable {P:Program}{D:Duo P}{h x:Nat}
def Duo.gf.symm(t:D.gf h x):D.gf x h:=t.elim (λ⟨a,b⟩=>.inr ⟨b,a⟩) (λ⟨a,b⟩=>.inl ⟨b,a⟩)
def Duo.gf.ne(t:D.gf h x):h≠x:=by have:=D.hj;rcases t with⟨rfl,rfl⟩|⟨rfl,rfl⟩<;>omega
def Duo.gf.left(t:D.gf h x):D.Of h:=t.elim (λa=>.inl a.1) (λa=>.inr a.1)
def Duo.gf.right(t:D.gf h x):D.Of x:=t.symm.left
variable {i:Nat}
def Duo.gf.Aq(t:D.gf h x)(h1:i≠h)(h2:i≠x):0<i/\i≠D.j:=by
 rcases t with⟨rfl,rfl⟩|⟨rfl,rfl⟩
 ·exact⟨aa,h2⟩
 ·exact⟨aa,h1⟩
variable {gs:Array Goroutine}{w:World}{T:Trace}{q:Nat->Nat}
def Duo.Base.at (b:D.Base gs w T q)(d:Nat):D.Base gs (w.at d) T q:=
 ⟨b.kZ,b.gK,b.above,b.d0,b.dj,D.CC w d b.k,b.chans,b.mF,b.rp.at d,b.nr⟩
variable {p:Nat}
def Duo.Base.deaf(b:D.Base gs w T q)(hp:D.Of p):Deaf T p=0:=hp.elim (λe=>e▸b.d0) (λe=>e▸b.dj)
def Duo.Base.lt(b:D.Base gs w T q)(hp:D.Of p):p<gs.size:=by have:=b.kZ;rcases hp with rfl|rfl<;>omega
abbrev mo(P:Program)(gs:Array Goroutine)(i:Nat)(g g':Goroutine)(w':World):Array Goroutine:=(gs.map (woken P g g' w')).setIfInBounds i g'
variable {w':World}
def iB(i:Nat)(g g':Goroutine):(mo P gs i g g' w').size=gs.size:=ak
def rS(h:i<gs.size)(g g':Goroutine):(mo P gs i g g' w')[i]? =some g':=Array.getElem?_setIfInBounds_self_of_lt (aV h)
variable {k:Nat}{y:Goroutine}
def qO(h:k≠i)(hy:gs[k]? =some y)(ha:y.again w'=y)(g g':Goroutine):(mo P gs i g g' w')[k]? =some y:=by rw[Array.getElem?_setIfInBounds_ne (λe=>h e.symm),Array.getElem?_map,hy];simp[woken_of_again ha]
variable {g g':Goroutine}
def vY(h:k≠i){x:Goroutine}(hx:(mo P gs i g g' w')[k]? =some x):∃z,gs[k]? =some z/\x=woken P g g' w' z:=by rw[Array.getElem?_setIfInBounds_ne (λe=>h e.symm),Array.getElem?_map]at hx;obtain⟨z,hz,rfl⟩:=Option.map_eq_some_iff.1 hx;exact⟨z,hz,rfl⟩
variable {fn:FuncId}{pos:String}{es:Array Event}
def Duo.Base.step(b:D.Base gs w T q)(hp:D.Of p)(hk:D.K w')(hc:∀c,D.chans c->Open c w')(hs:w.heap.size<=w'.heap.size)(hf:lF D.W w')(he:∀e∈es,Calm e):
 D.Base (mo P gs p g g' w') w' (T++MemOp.ofEvents p fn pos es) q:=by
 have hd:∀i,Deaf (T++MemOp.ofEvents p fn pos es) i=Deaf T i:=by
  intro i;by_cases e:i=p
  ·subst e;rw[Deaf_own];exact deafBehind_still (λe h=>(he e h).1) _
  ·exact Deaf_other T (λx=>e x.symm) _ (λop aR=>by obtain⟨e,_,rfl⟩:=Conc.mem_ofEvents aR;rfl)
 refine⟨by rw[iB];exact b.kZ,λi x h1 h2 hx=>?_,λi hi=>?_,(hd 0).trans b.d0,(hd _).trans b.dj,hk,hc,Nat.le_trans b.mF hs,hf,b.nr.events λe h=>Bh (he e h).2⟩
 ·have aE:i≠p:=by rcases hp with rfl|rfl<;>omega
  obtain⟨z,hz,rfl⟩:=vY aE hx;have hq:=b.gK i z h1 h2 hz;rw[woken_quitsD hq,hd];exact hq
 ·rw[iB]at hi;rw[hd];exact b.above i hi
def Duo.Base.leave(b:D.Base gs w T q)(h1:0<i)(h2:i≠D.j)(hg:gs[i]? =some g)(hr:g.status=.running)(d:Nat)(bG:Option (Nat×Nat)):
 ∃g' es q',runT P (crowd gs (w.at d) bG) i=(.next (crowd (mo P gs i g g' (w.at d)) (w.at d) bG),MemOp.ofEvents i g.frame.fn g.frame.place es)/\(∀e∈es,e.mute=true)/\
  sumTo gs.size q'<sumTo gs.size q/\D.Base (mo P gs i g g' (w.at d)) (w.at d) (T++MemOp.ofEvents i g.frame.fn g.frame.place es) q':=by
 have hq:=b.gK i g h1 h2 hg;have qE:(i==0)=false:=by simp;omega
 have aZ:i<gs.size:=(Array.getElem?_eq_some_iff.1 hg).1
 cases mW:q i with
 |zero=>rw[mW]at hq;rw[hq.1]at hr;cases hr
 |succ k=>
  rw[mW]at hq;rcases hq with⟨hf,_⟩|⟨_,g',es,hm,lO,bu⟩
  ·rw[hf]at hr;cases hr
  have eH:=runT_crowd_go (P:=P) (sl:=bG) (i:=i) hg (by rw[qE];exact lO (w.at d))
  have KF:sumTo gs.size (upd q i k)+(k+1)=sumTo gs.size q+k:=by have:=sumTo_upd q k id aZ;simpa[mW]using this
  have fw:∀k,k≠i->Deaf (T++MemOp.ofEvents i g.frame.fn g.frame.place es) k=Deaf T k:=λk e=>
   Deaf_other T (λx=>e x.symm) _ (λop aR=>by obtain⟨e,_,rfl⟩:=Conc.mem_ofEvents aR;rfl)
  refine⟨g',es,upd q i k,eH,hm,aa,by rw[iB];exact b.kZ,λc x c1 c2 hx=>?_,λc hc=>?_,(fw 0 aa).trans b.d0,(fw _ (λe=>h2 e.symm)).trans b.dj,(b.at d).k,b.chans,b.mF,b.rp.at d,b.nr.events λe he=>LM (hm e he)⟩
  ·by_cases e:c=i
   ·subst e;rw[rS aZ]at hx;obtain rfl:=Option.some.inj hx;rw[upd_same,Deaf_own];exact bu
   ·obtain⟨z,hz,rfl⟩:=vY e hx;have oY:=b.gK c z c1 c2 hz;rw[woken_quitsD oY,upd_ne q k e,fw c e];exact oY
  ·rw[iB]at hc;rw[fw c aa];exact b.above c hc
def Duo.Base.awake(b:D.Base gs w T q)(t:D.gf h x)(hg:gs[h]? =some g)(hy:gs[x]? =some y)(hgs:g.status=.running\/g.status=.blocked\/g.status=.finished)(vO:y.status=.running\/y.status=.blocked\/y.status=.finished):∀z∈gs,awake z:=by
 intro z hz;obtain⟨i,hi,rfl⟩:=Array.mem_iff_getElem.1 hz;by_cases e:i=h
 ·subst e;have:gs[i]=g:=by simpa[Array.getElem?_eq_getElem hi]using hg
  rw[this];exact awake_of hgs
 ·by_cases e':i=x
  ·subst e';have:gs[i]=y:=by simpa[Array.getElem?_eq_getElem hi]using hy
   rw[this];exact awake_of vO
  ·obtain⟨h1,h2⟩:=t.Aq e e';exact awake_of ((b.gK i _ h1 h2 (Array.getElem?_eq_getElem hi)).status.elim .inl λx=>.inr (.inr x))
def Duo.Fits(D:Duo P)(s:Seat):Prop:=∀cc∈s.cases,∃c,D.chans c/\cc.chan=.chan (some c)
def VZ{cs:Array CommCase}{sh:CommShape}(h:∀cc∈cs,∃c,cc.chan=.chan (some c)/\Open c w):(parked g cs sh).again w=parked g cs sh:=by simp[Goroutine.again,parked];intro x hx;obtain⟨c,hc,k,hk⟩:=h cs[x] (Array.getElem_mem hx);rw[hc];simp[hk]
variable {main:Bool}{s:Seat}{n:Nat}
def dY.stays(hc:∀c,D.chans c->Open c w)(hs:D.Fits s)(h:dY P main D.KW D.Still D.B s n g):g.again w=g:=by
 rcases h with⟨k,rfl,hg⟩|⟨rfl,_,cQ,rfl,_⟩
 ·exact again_of_running (.inl hg.running) w
 ·exact VZ λcc cR=>by obtain⟨c,h1,h2⟩:=hs cc cR;exact⟨c,h2,hc c h1⟩
def Duo.St(D:Duo P)(h x:Nat)(s:Seat)(g:Goroutine)(U:Hp)(m:Machine)(T:Trace):Prop:=
 ∃gs w sl q J n y,m=crowd gs w sl/\gs[h]? =some g/\gs[x]? =some y/\dY P (x==0) D.KW D.Still D.B s n y/\D.Base gs w T q/\dN D.S D.Still D.Q D.j x w.heap.size (Knows T h) T/\cP J w U/\(∀b,D.Hid b->J b)
def Duo.Nk(D:Duo P)(n:Nat)(e:Event):Prop:=
 (∀b,(MemAct.ofEvent e).touch?=some b->(D.S b.loc->b.kind≠.plain)/\(D.Still b.loc->b.write=false)/\(D.Q b.loc->b.kind≠.plain))/\Calm e/\(MemAct.ofEvent e).low n
def abo(hD:D.Deep){J:Nat->Prop}{e:Event}(hJ:∀b,D.Hid b->J b)(h:iv J n e):D.Nk n e:=by
 have key:∀{l:Loc},(∀a:Addr,l=.cell a->¬J a.block)->¬(D.S l\/D.Still l\/D.Q l):=by
  intro l hl hs;obtain⟨a,rfl⟩:=D.cell l hs;refine hl a rfl (hJ _ ?_);rcases hs with hs|hs|hs
  ·exact .inr (.inr ⟨a,rfl,.inl hs⟩)
  ·exact .inl (hD.still a hs)
  ·exact .inr (.inr ⟨a,rfl,.inr hs⟩)
 have UX:∀{l:Loc} {b:Touch},b.loc=l->(∀a:Addr,l=.cell a->¬J a.block)->(D.S b.loc->b.kind≠.plain)/\(D.Still b.loc->b.write=false)/\(D.Q b.loc->b.kind≠.plain):=by intro l b hb hl;have:=key hl;rw[<-hb]at this;exact⟨λx=>absurd (.inl x) this,λx=>absurd (.inr (.inl x)) this,λx=>absurd (.inr (.inr x)) this⟩
 obtain⟨loc,wr,sy⟩:=e;unfold iv at h
 cases loc with
 |cell a=>
  obtain⟨h1,h2⟩:¬J a.block/\a.block<n:=h;refine⟨λb hb=>UX (l:=.cell a) ?_ (λa' e=>by cases e;exact h1),⟨⟨ak,ak⟩,ak⟩,by cases sy<;>cases wr<;>exact h2⟩
  cases sy<;>cases wr<;>simp[MemAct.ofEvent,MemAct.touch?]at hb<;>subst hb<;>rfl
 |obj r=>
  obtain⟨h1,h2⟩:¬J r/\r<n:=h;refine⟨λb hb=>UX (l:=.obj r) ?_ (λa' e=>by cases e),⟨⟨ak,ak⟩,ak⟩,by cases sy<;>cases wr<;>exact h2⟩
  cases sy<;>cases wr<;>simp[MemAct.ofEvent,MemAct.touch?]at hb<;>subst hb<;>rfl
 |output=>exact h.elim
 |goroutines=>exact h.elim
 |mark m=>
  have h:Bm m=true:=h
  cases m<;>first|cases h|skip
  ·exact⟨λx hx=>by simp[MemAct.ofEvent,MemAct.touch?]at hx,⟨⟨ak,ak⟩,ak⟩,trivial⟩
  ·exact⟨λx hx=>by simp[MemAct.ofEvent,MemAct.touch?]at hx,⟨⟨ak,ak⟩,ak⟩,trivial⟩
def Duo.wO(D:Duo P)(main:Bool)(g:Goroutine)(U:Hp)(X:Goroutine->Hp->Prop):Prop:=
 ∀J w,cP J w U->(∀b,D.Hid b->J b)->D.K w->(∀c,D.chans c->Open c w)->lF D.W w->(stepG P main g w).goes λg' w' es=>
  ∃ae J',cP J' w' ae/\(∀b,D.Hid b->J' b)/\D.K w'/\(∀c,D.chans c->Open c w')/\lF D.W w'/\w.heap.size<=w'.heap.size/\(∀e∈es,D.Nk w'.heap.size e)/\g'.status=.running/\X g' ae
variable {U:Hp}{X:Goroutine->Hp->Prop}
def gQ.acy(hD:D.Deep)(h:gQ P main g U X):D.wO main g U X:=by
 intro J w hs hJ hK hc hf;have:=h J w hs
 cases hg:stepG P main g w<;>rw[hg]at this<;>first|exact this.elim|skip
 obtain⟨ae,h1,h2,h3,h4,h5⟩:=this;exact⟨ae,J,h1,hJ,hD.k w _ (λb hb=>h2.hidden b (hJ b (.inl hb))) hK,λc cR=>by obtain⟨k,hk⟩:=hc c cR;exact⟨k,by rw[h2.hidden c (hJ c (.inr (.inl cR)))];exact hk⟩,hf.kept h2,h2.tI,λe he=>abo hD hJ (h3 e he),h4,h5⟩
variable {c:Nat}{b:Bool}
def Eh(hb:D.Base gs w T q)(t:D.gf h x)(hg:gs[h]? =some g)(ho:offersAt g c b=[]):partners (gs.setIfInBounds x ph) c b=[]:=by
 refine partners_nil λj z hz=>?_;rcases getElem?_stand gs x j z hz with⟨_,rfl⟩|⟨h1,h2⟩
 ·exact offersAt_ph c b
 ·by_cases e:j=h
  ·subst e;rw[hg]at h2;rw[<-Option.some.inj h2];exact ho
  ·obtain⟨i1,i2⟩:=t.Aq e h1;refine offersAt_of_not_blocked (λCU=>?_) c b;have:=(hb.gK j z i1 i2 h2).status;rcases this with y|y<;>rw[CU]at y<;>cases y
def UC(hb:D.Base gs w T q)(t:D.gf h x)(hg:gs[h]? =some g):partners (gs.setIfInBounds x ph) c b=(offersAt g c b).map λk=>(h,k):=by
 refine partners_one (stand_get t.ne hg) λj z hj hz=>?_;rcases getElem?_stand gs x j z hz with⟨_,rfl⟩|⟨h1,h2⟩
 ·exact offersAt_ph c b
 ·obtain⟨i1,i2⟩:=t.Aq hj h1;refine offersAt_of_not_blocked (λCU=>?_) c b;have:=(hb.gK j z i1 i2 h2).status;rcases this with y|y<;>rw[CU]at y<;>cases y
def LJ{cc:CommCase}(eF:cc.chan=.chan (some c))(ho:Open c w)(hp:partners gs c (cc.send.isNone)=[]):NoWays w gs cc:=by
 obtain⟨ch,sd,z⟩:=cc;obtain⟨k,hk⟩:=ho
 cases eF
 cases sd with
 |none=>exact ways_recv_none (z:=z) hk hp
 |some v=>exact ways_send_none (z:=z) hk ak hp
variable {Still:Loc->Prop}
def yE{B:Nat}(h:∀e∈es,EvC Still B e):∀e∈es,Calm e:=λe he=>by obtain⟨a,rfl,_,_⟩:=h e he;exact⟨⟨ak,ak⟩,ak⟩
def Ps{B:Nat}(h:∀e∈es,EvC Still B e):∀e∈es,e.loc≠.mark .disable/\e.loc≠.mark .enable:=λe he=>(yE h e he).1
def Duo.Base.set(b:D.Base gs w T q)(hp:D.Of p)(y:Goroutine)(he:∀e∈es,Calm e):D.Base (gs.setIfInBounds p y) w (T++MemOp.ofEvents p fn pos es) q:=by
 have hd:∀i,Deaf (T++MemOp.ofEvents p fn pos es) i=Deaf T i:=by
  intro i;by_cases e:i=p
  ·subst e;rw[Deaf_own];exact deafBehind_still (λe h=>(he e h).1) _
  ·exact Deaf_other T (λx=>e x.symm) _ (λop aR=>by obtain⟨e,_,rfl⟩:=Conc.mem_ofEvents aR;rfl)
 refine⟨by simpa using b.kZ,λi x h1 h2 hx=>?_,λi hi=>?_,(hd 0).trans b.d0,(hd _).trans b.dj,b.k,b.chans,b.mF,b.rp,b.nr.events λe h=>Bh (he e h).2⟩
 ·have aE:i≠p:=by rcases hp with rfl|rfl<;>omega
  rw[Array.getElem?_setIfInBounds_ne (λe=>aE e.symm)]at hx;rw[hd];exact b.gK i x h1 h2 hx
 ·rw[hd];exact b.above i (aV hi)
def Duo.other(D:Duo P)(t:D.gf h x)(hs:D.Fits s){sl:Option (Nat×Nat)}(hb:D.Base gs w T q)(hg:gs[h]? =some g)(hga:∀d,g.again (w.at d)=g)(hgo:∀c b,offersAt g c b=[])(hy:gs[x]? =some y)(hr:y.status=.running)(lN:dY P (x==0) D.KW D.Still D.B s n y):
 ∃ck y' n' d es,runT P (crowd gs w sl) x=(.next (crowd ck (w.at d) sl),MemOp.ofEvents x y.frame.fn y.frame.place es)/\n'<n/\ck.size=gs.size/\ck[h]? =some g/\ck[x]? =some y'/\dY P (x==0) D.KW D.Still D.B s n' y'/\
  D.Base ck (w.at d) (T++MemOp.ofEvents x y.frame.fn y.frame.place es) q/\∀e∈es,EvC D.Still D.B e:=by
 rcases dY.pick lN hr (D.CB _ hb.k)with⟨cQ,es,k,rfl,qB,eG,bt⟩|⟨n',y',d,es,aZ,_,eG,bt,qL⟩
 ·have hw:∀cc∈s.cases,NoWays w (gs.setIfInBounds x ph) cc:=λcc cR=>by obtain⟨c,h1,h2⟩:=hs cc cR;exact LJ h2 (hb.chans c h1) (Eh hb t hg (hgo _ _))
  exact⟨_,parked cQ s.cases s.shape,0,w.drawn,es,crowd_waits hy bt hw,aa,ak,by rw[Array.getElem?_setIfInBounds_ne t.ne.symm];exact hg,
   Array.getElem?_setIfInBounds_self_of_lt (hb.lt t.right),.inr ⟨rfl,y,cQ,rfl,qB⟩,hb.set t.right _ (yE eG),eG⟩
 ·exact⟨_,y',n',d,es,runT_crowd_go hy bt,aZ,ak,qO t.ne hg (hga d) _ _,rS (hb.lt t.right) _ _,qL,(hb.at d).step t.right (hb.at d).k hb.chans (Nat.le_refl _) (hb.rp.at d) (yE eG),eG⟩
def dN.other{jw B:Nat}{K:Nat->Prop}{K':Nat->Prop}(H:dN S Still Q jw x n K T)(hK:∀i,K i->K' i)(JF:∀l,Still l->¬Q l)(hB:B<=n)(eG:∀e∈es,EvC Still B e):dN S Still Q jw x n K' (T++MemOp.ofEvents x fn pos es):=by obtain⟨h1,h2,h3,_⟩:=evC_ops (i:=x) (fn:=fn) (pos:=pos) eG;exact H.appRead hK JF h1 h2 (λop aR=>MemAct.low_mono hB (h3 op aR))
def Duo.run(D:Duo P)(t:D.gf h x)(hs:D.Fits s){m:Machine}(mL:D.St h x s g U m T)(hr:g.status=.running)(hX:D.wO (h==0) g U X):
 ∃N m' T' g' ae,runNT P N m T=(.next m',T')/\D.St h x s g' ae m' T'/\g'.status=.running/\X g' ae:=by
 let Inv:Nat->Machine->Trace->Prop:=λμ m T=>(∃gs w sl q J n y,m=crowd gs w sl/\gs[h]? =some g/\gs[x]? =some y/\dY P (x==0) D.KW D.Still D.B s n y/\D.Base gs w T q/\dN D.S D.Still D.Q D.j x w.heap.size (Knows T h) T/\cP J w U/\(∀b,D.Hid b->J b)/\μ=n+sumTo gs.size q+1)\/
  ∃g' ae,D.St h x s g' ae m T/\g'.status=.running/\X g' ae
 suffices step:∀μ m T,Inv μ m T->(∃g' ae,D.St h x s g' ae m T/\g'.status=.running/\X g' ae)\/∃m' ops uU,stepT P m=(.next m',ops)/\uU<μ/\Inv uU m' (T++ops)by
  obtain⟨gs,w,sl,q,J,n,y,rfl,e1,e2,e3,e4,e5,e6,e7⟩:=mL;obtain⟨N,m',T',kt,g',ae,h1,h2,h3⟩:=runs_until step _ _ _ (.inl ⟨gs,w,sl,q,J,n,y,rfl,e1,e2,e3,e4,e5,e6,e7,rfl⟩);exact⟨N,m',T',g',ae,kt,h1,h2,h3⟩
 rintro μ m T (⟨gs,w,sl,q,J,n,y,rfl,hg,hy,lN,hb,hp,fE,hJ,rfl⟩|J4)
 ·right;have vO:=dY.status lN;obtain⟨i,z,d,bG,hi,hz,bt⟩:=crowd_pick (P:=P) (w:=w) (sl:=sl) (hb.awake t hg hy (.inl hr) (vO.elim (λa=>.inl a.1) (λa=>.inr (.inl a.1)))) ⟨h,g,hg,hr⟩;by_cases eh:i=h
  ·
   subst eh;obtain rfl:z=g:=by rw[hg]at hi;exact(Option.some.inj hi).symm
   have hgo:=hX J (w.at d) (fE.at d) hJ (hb.at d).k hb.chans (hb.rp.at d)
   cases lO:stepG P (i==0) z (w.at d)<;>rw[lO]at hgo<;>first|exact hgo.elim|skip
   rename_i g' w' es;obtain⟨ae,J',afU,hJ',hK',cF,AK,gD,ki,gC,hx⟩:=hgo;have eH:=runT_crowd_go (P:=P) (sl:=bG) hi lO;refine⟨_,_,0,bt.trans eH,aa,.inr ⟨g',ae,⟨_,w',bG,q,J',n,y,rfl,rS (hb.lt t.left) _ _,?_,lN,(hb.at d).step t.left hK' cF gD AK (λe he=>(ki e he).2.1),?_,afU,hJ'⟩,gC,hx⟩⟩
   ·exact qO t.ne.symm hy (dY.stays cF hs lN) _ _
   ·refine(hp.mono gD).appH (λop aR=>by obtain⟨e,_,rfl⟩:=Conc.mem_ofEvents aR;rfl) (λop aR b hb=>?_) (λop aR=>?_)
    ·obtain⟨e,he,rfl⟩:=Conc.mem_ofEvents aR;exact(ki e he).1 b hb
    ·obtain⟨e,he,rfl⟩:=Conc.mem_ofEvents aR;exact(ki e he).2.2
  ·by_cases ex:i=x
   ·
    subst ex;obtain rfl:z=y:=by rw[hy]at hi;exact(Option.some.inj hi).symm
    obtain⟨ck,y',n',d',es,eH,aZ,gD,ff,uf,qL,cD,eG⟩:=D.other t hs (sl:=bG) (hb.at d) hg (λd=>again_of_running (.inl hr) _) (λc b=>offersAt_of_not_blocked (by rw[hr];simp) c b) hy hz lN;refine⟨_,_,n'+sumTo gs.size q+1,bt.trans eH,aa,.inl ⟨ck,w.at d',bG,q,J,n',y',rfl,ff,uf,qL,cD,?_,fE.at d',hJ,by rw[gD]⟩⟩;exact hp.other (λ_ x=>x.app _) (λl hl=>(D.apart l hl).2) hb.mF eG
   ·obtain⟨i1,i2⟩:=t.Aq eh ex;obtain⟨g',es,q',eH,hm,aZ,cD⟩:=hb.leave i1 i2 hi hz d bG;refine⟨_,_,n+sumTo gs.size q'+1,bt.trans eH,aa,.inl ⟨_,w.at d,bG,q',J,n,y,rfl,qO (λe=>eh e.symm) hg (again_of_running (.inl hr) _) _ _,qO (λe=>ex e.symm) hy (dY.stays hb.chans hs lN) _ _,lN,cD,?_,fE.at d,hJ,by rw[iB]⟩⟩;exact hp.appMute (λ_ x=>x.app _) (λop aR=>by obtain⟨e,he,rfl⟩:=Conc.mem_ofEvents aR;exact touch_mute (hm e he)) (λop aR=>by obtain⟨e,he,rfl⟩:=Conc.mem_ofEvents aR;exact low_mute (hm e he) _)
 ·exact .inl J4
def cP.setChan {J:Nat->Prop}{w:World}{U:Hp}(h:cP J w U){c:Nat}(hc:J c)(cap:Nat)(buf:Array Value)(cl:Bool)(s r:Nat)(tm:Bool):cP J (w.setChan c cap buf cl s r tm) U:=by refine⟨λ{b o} hb=>?_,h.gV,λb hj=>by simpa[World.setChan]using h.low b hj⟩;have:c≠b:=λe=>h.rU hb (e▸hc);rw[heap_setChan_ne w _ _ _ _ _ _ this];exact h.heap hb
def SK(h j:Nat)(fh:FuncId)(ph:String)(fj:FuncId)(pj:String)(c k cap:Nat):∀op∈met h j fh ph fj pj c k cap,∀a,op.act≠.mark (.release a):=by intro op aR a;simp only[met,List.mem_toArray,List.mem_cons,List.not_mem_nil,or_false]at aR;rcases aR with rfl|rfl|rfl|rfl<;>simp
def lF.setChan{W:World}(h:lF W w)(c cap:Nat)(buf:Array Value)(cl:Bool)(s r:Nat)(tm:Bool):lF W (w.setChan c cap buf cl s r tm):=⟨h.os,h.tape,h.output⟩
def Duo.Base.U0{ck:Array Goroutine}{u:Trace}(b:D.Base gs w T q){k':Nat}{cl:Bool}(hc:D.chans c)(hk:w.heap[c]? =some (.chan 0 #[] cl k k false))(hs:ck.size=gs.size)(ho:∀i,0<i->i≠D.j->ck[i]? =gs[i]?)(hd:∀i,Deaf (T++u) i=Deaf T i)(hn:∀op∈u,∀a,op.act≠.mark (.release a)):D.Base ck (w.setChan c 0 #[] false k' k' false) (T++u) q:=by
 refine⟨by rw[hs];exact b.kZ,λi x h1 h2 hx=>?_,λi hi=>?_,(hd 0).trans b.d0,(hd _).trans b.dj,?_,λc' cF=>?_,by simpa[World.setChan]using b.mF,b.rp.setChan _ _ _ _ _ _ _,b.nr.app hn⟩
 ·rw[ho i h1 h2]at hx;rw[hd];exact b.gK i x h1 h2 hx
 ·rw[hs]at hi;rw[hd];exact b.above i hi
 ·exact D.Jy w c k' hc b.k
 ·by_cases e:c=c'
  ·subst e;exact⟨k',heap_setChan_self w hk _ _ _ _ _ _⟩
  ·obtain⟨k0,h0⟩:=b.chans c' cF;exact⟨k0,by rw[heap_setChan_ne w _ _ _ _ _ _ e];exact h0⟩
def Duo.yk(D:Duo P)(a b h x:Nat)(sa sb:Seat)(c kk:Nat)(v:Value)(U:Hp)(m:Machine)(T':Trace):Prop:=
 ∃ck w' bG q' ga gb J' k fh ph fj pj T1,m=crowd ck w' bG/\ck[a]? =some (Go.Conc.served ga undef)/\sa.home ga/\ck[b]? =some (Go.Conc.served gb (commResult sb.cases sb.shape kk v true))/\sb.home gb/\D.Base ck w' T' q'/\cP J' w' U/\(∀y,D.Hid y->J' y)/\
  c<w'.heap.size/\T'=T1++met a b fh ph fj pj c k 0/\dN D.S D.Still D.Q D.j x w'.heap.size (Knows T1 h) T1/\Deaf T1 a=0/\Deaf T1 b=0
variable {S Q:Loc->Prop}{P:Program}
theorem Duo.meet (D:Duo P){a b:Nat}(t:D.gf a b){sa sb:Seat}{c kk:Nat}{v zs z:Value}(hc:D.chans c)(KC:sa.cases= #[scase c v zs])(xt:sa.shape=.send)(FZ:D.Fits sb)(hk:sb.cases[kk]? =some (rcase c z))
 (hu:∀(m:Nat) (cc:CommCase),m≠kk->sb.cases[m]? =some cc->cc.chan≠.chan (some c)) (gZ:∀cc∈sb.cases,cc.send=none) {h x:Nat} (t':(h=a/\x=b)\/(h=b/\x=a))
 {gs:Array Goroutine} {w:World} {sl:Option (Nat×Nat)} {q:Nat->Nat} {J:Nat->Prop} {na nb:Nat} {ya yb:Goroutine} {U:Hp} {T:Trace} (oe:gs[a]? =some ya) (o0:gs[b]? =some yb) (rK:dY P (a==0) D.KW D.Still D.B sa na ya) (rL:dY P (b==0) D.KW D.Still D.B sb nb yb)
 (hb:D.Base gs w T q) (hp:dN D.S D.Still D.Q D.j x w.heap.size (Knows T h) T) (fE:cP J w U) (hJ:∀y,D.Hid y->J y) (hn:0<na\/0<nb):
 ∃N m' T',runNT P N (crowd gs w sl) T=(.next m',T')/\D.yk a b h x sa sb c kk v U m' T':=by
 have J8:D.Fits sa:=by intro cc cR;rw[KC]at cR;simp only[List.mem_toArray,List.mem_cons,List.not_mem_nil,or_false]at cR;subst cR;exact⟨c,hc,rfl⟩
 let Inv:Nat->Machine->Trace->Prop:=λμ m T=>(∃gs w sl q J na nb ya yb,m=crowd gs w sl/\gs[a]? =some ya/\gs[b]? =some yb/\dY P (a==0) D.KW D.Still D.B sa na ya/\dY P (b==0) D.KW D.Still D.B sb nb yb/\D.Base gs w T q/\
  dN D.S D.Still D.Q D.j x w.heap.size (Knows T h) T/\cP J w U/\(∀y,D.Hid y->J y)/\(0<na\/0<nb)/\μ=na+nb+sumTo gs.size q+1)\/D.yk a b h x sa sb c kk v U m T
 suffices step:∀μ m T,Inv μ m T->D.yk a b h x sa sb c kk v U m T\/∃m' ops uU,stepT P m=(.next m',ops)/\uU<μ/\Inv uU m' (T++ops)by
  exact runs_until step _ _ _ (.inl ⟨gs,w,sl,q,J,na,nb,ya,yb,rfl,oe,o0,rK,rL,hb,hp,fE,hJ,hn,rfl⟩)
 clear hn hJ fE hp hb rL rK o0 oe T ya yb na nb J q sl w gs;have hx:x=a\/x=b:=t'.elim (λe=>.inr e.2) (λe=>.inl e.2);have hh:h=a\/h=b:=t'.elim (λe=>.inl e.1) (λe=>.inr e.1)
 have quiet:∀{p n:Nat} {T:Trace} {fn:FuncId} {pos:String} {es:Array Event},(p=a\/p=b)->dN D.S D.Still D.Q D.j x n (Knows T h) T->D.B<=n->(∀e∈es,EvC D.Still D.B e)->
  dN D.S D.Still D.Q D.j x n (Knows (T++MemOp.ofEvents p fn pos es) h) (T++MemOp.ofEvents p fn pos es):=by
  intro p n T fn pos es hp H hB eG;by_cases e:p=x
  ·subst e;exact H.other (λ_ z=>z.app _) (λl hl=>(D.apart l hl).2) hB eG
  ·have e':p=h:=by
    rcases t' with⟨rfl,rfl⟩|⟨rfl,rfl⟩
    ·exact hp.resolve_right e
    ·exact hp.resolve_left e
   subst e';obtain⟨h1,h2,h3,_⟩:=evC_ops (i:=p) (fn:=fn) (pos:=pos) eG
   exact H.appH h1 (λop aR b hb=>by
    obtain⟨b1,b2⟩:=h2 op aR b hb
    exact⟨λy=>absurd y (D.apart _ b2).1,λ_=>b1,λy=>absurd y (D.apart _ b2).2⟩) (λop aR=>MemAct.low_mono hB (h3 op aR))
 rintro μ m T (⟨gs,w,sl,q,J,na,nb,ya,yb,rfl,oe,o0,rK,rL,hb,hp,fE,hJ,hn,rfl⟩|J4)
 case inr=>exact .inl J4
 right;have KD:=dY.status rK;have ud:=dY.status rL
 have kt:∃(i:Nat) (g:Goroutine),gs[i]? =some g/\g.status=.running:=by
  rcases hn with hn|hn
  ·exact⟨a,ya,oe,KD.elim (·.1) (λz=>aa)⟩
  ·exact⟨b,yb,o0,ud.elim (·.1) (λz=>aa)⟩
 obtain⟨i,z',d,bG,hi,hz,bt⟩:=crowd_pick (P:=P) (w:=w) (sl:=sl) (hb.awake t oe o0 (KD.elim (λa=>.inl a.1) (λa=>.inr (.inl a.1))) (ud.elim (λa=>.inl a.1) (λa=>.inr (.inl a.1)))) kt;have ma:=hb.at d;by_cases ea:i=a
 ·
  subst ea;obtain rfl:z'=ya:=by rw[oe]at hi;exact(Option.some.inj hi).symm
  rcases ud with⟨vI,vG⟩|⟨eU,rfl⟩
  ·
   obtain⟨ck,y',n',d',es,eH,aZ,gD,ff,uf,qL,cD,eG⟩:=D.other t.symm J8 (sl:=bG) ma o0 (λd=>again_of_running (.inl vI) _) (λc b=>offersAt_of_not_blocked (by rw[vI];simp) c b) oe hz rK;exact⟨_,_,n'+nb+sumTo gs.size q+1,bt.trans eH,aa,.inl ⟨ck,w.at d',bG,q,J,n',nb,y',yb,rfl,uf,ff,qL,rL,cD,quiet (.inl rfl) hp hb.mF eG,fE.at d',hJ,.inr vG,by rw[gD]⟩⟩
  ·rcases dY.pick rK hz (D.CB _ ma.k)with⟨cQ,es,k,rfl,qB,eG,lO⟩|⟨n',y',d',es,aZ,oX,eG,lO,qL⟩
   ·
    obtain⟨pL,gb,rfl,ad7⟩:∃pL gb,yb=parked gb sb.cases sb.shape/\AtIn P (b==0) D.KW D.Still D.B sb pL gb:=by
     rcases rL with⟨k',h0,_⟩|⟨_,pL,gb,e,h0⟩
     ·omega
     ·exact⟨pL,gb,e,h0⟩
    obtain⟨kc,qH⟩:=ma.chans c hc;rw[KC,xt]at lO
    have Kv:partners (gs.setIfInBounds i ph) c false=[(b,kk)]:=by rw[UC ma t.symm o0,offersAt_parked_at hk hu];rfl
    have hm:=crowd_send_meets_sel (P:=P) (sl:=bG) oe lO qH t.ne.symm o0 hk Kv;refine⟨_,_,0,bt.trans hm,aa,.inr ⟨_,_,bG,q,cQ,gb,J,kc,cQ.frame.fn,cQ.frame.place,gb.frame.fn,gb.frame.place,T++MemOp.ofEvents i z'.frame.fn z'.frame.place es,rfl,?_,qB.2.2.2.2.1,?_,ad7.2.2.2.2.1,?_,(fE.at d).setChan (hJ c (.inr (.inl hc))) _ _ _ _ _ _,hJ,?_,by simp[met],?_,?_,?_⟩⟩
    ·rw[Array.getElem?_setIfInBounds_self_of_lt (by simpa using hb.lt t.left)];rfl
    ·rw[Array.getElem?_setIfInBounds_ne t.ne,Array.getElem?_setIfInBounds_self_of_lt (by simpa using hb.lt t.right)];rfl
    ·rw[<-Array.append_assoc];refine Duo.Base.U0 (ma.set (p:=i) t.left z' (yE eG)) hc qH ak (λj h1 h2=>?_) (λj=>Ni _ _ _ _ _ _ _ _) (SK _ _ _ _ _ _ _ _ _);have e1:i≠j:=by rcases t with⟨rfl,rfl⟩|⟨rfl,rfl⟩<;>omega
     have e2:b≠j:=by rcases t with⟨rfl,rfl⟩|⟨rfl,rfl⟩<;>omega
     simp[Array.getElem?_setIfInBounds_ne e1,Array.getElem?_setIfInBounds_ne e2]
    ·simpa[World.setChan]using(Array.getElem?_eq_some_iff.1 qH).1
    ·have:=quiet (fn:=z'.frame.fn) (pos:=z'.frame.place) (p:=i) (.inl rfl) hp hb.mF eG;simp only[World.setChan,Array.size_setIfInBounds];exact this
    ·rw[Deaf_own,deafBehind_still (Ps eG)];exact hb.deaf t.left
    ·rw[Deaf_other T t.ne.symm.symm _ (λop aR=>by obtain⟨e,_,rfl⟩:=Conc.mem_ofEvents aR;rfl)];exact hb.deaf t.right
   ·refine⟨_,_,n'+0+sumTo gs.size q+1,bt.trans (runT_crowd_go oe lO),aa,.inl ⟨_,w.at d',bG,q,J,n',0,y',yb,rfl,rS (hb.lt t.left) _ _,qO t.ne.symm o0 (dY.stays (hb.at d').chans FZ rL) _ _,qL,rL,(hb.at d').step t.left (hb.at d').k hb.chans (Nat.le_refl _) (hb.rp.at d') (yE eG),quiet (.inl rfl) hp hb.mF eG,fE.at d',hJ,?_,by rw[iB]⟩⟩;exact .inl oX
 ·by_cases eb:i=b
  ·
   subst eb;obtain rfl:z'=yb:=by rw[o0]at hi;exact(Option.some.inj hi).symm
   rcases KD with⟨RB,y0⟩|⟨gT,rfl⟩
   ·
    obtain⟨ck,y',n',d',es,eH,aZ,gD,ff,uf,qL,cD,eG⟩:=D.other t FZ (sl:=bG) ma oe (λd=>again_of_running (.inl RB) _) (λc b=>offersAt_of_not_blocked (by rw[RB];simp) c b) o0 hz rL;exact⟨_,_,na+n'+sumTo gs.size q+1,bt.trans eH,aa,.inl ⟨ck,w.at d',bG,q,J,na,n',ya,y',rfl,ff,uf,rK,qL,cD,quiet (.inr rfl) hp hb.mF eG,fE.at d',hJ,.inl y0,by rw[gD]⟩⟩
   ·rcases dY.pick rL hz (D.CB _ ma.k)with⟨cQ,es,k,rfl,qB,eG,lO⟩|⟨n',y',d',es,aZ,oX,eG,lO,qL⟩
    ·
     obtain⟨pL,ga,rfl,ad6⟩:∃pL ga,ya=parked ga sa.cases sa.shape/\AtIn P (a==0) D.KW D.Still D.B sa pL ga:=by
      rcases rK with⟨k',h0,_⟩|⟨_,pL,ga,e,h0⟩
      ·omega
      ·exact⟨pL,ga,e,h0⟩
     rw[KC,xt]at oe;obtain⟨kc,qH⟩:=ma.chans c hc
     have Kv:partners (gs.setIfInBounds i ph) c true=[(a,0)]:=by rw[UC ma t oe,offersAt_parked_send];simp
     have eV:∀(m:Nat) (c':CommCase),m≠kk->sb.cases[m]? =some c'->NoWays (w.at d) (gs.setIfInBounds i ph) c':=by intro m c' hm cF;obtain⟨r,eX,bX⟩:=FZ c' (Array.mem_of_getElem? cF);have aE:c≠r:=λe=>hu m c' hm cF (e▸bX);refine LJ bX (ma.chans r eX) (Eh ma t oe ?_);rw[gZ c' (Array.mem_of_getElem? cF)];show offersAt _ r true=[];rw[offersAt_parked_send,if_neg aE]
     have hm:=crowd_sel_recv_meets (P:=P) (sl:=bG) o0 lO hk eV qH t.ne oe Kv;refine⟨_,_,0,bt.trans hm,aa,.inr ⟨_,_,bG,q,ga,cQ,J,kc,ga.frame.fn,ga.frame.place,cQ.frame.fn,cQ.frame.place,T++MemOp.ofEvents i z'.frame.fn z'.frame.place es,rfl,?_,ad6.2.2.2.2.1,?_,qB.2.2.2.2.1,?_,(fE.at d).setChan (hJ c (.inr (.inl hc))) _ _ _ _ _ _,hJ,?_,by simp[met],?_,?_,?_⟩⟩
     ·rw[Array.getElem?_setIfInBounds_ne t.ne.symm,Array.getElem?_setIfInBounds_self_of_lt (by simpa using hb.lt t.left)];rfl
     ·rw[Array.getElem?_setIfInBounds_self_of_lt (by simpa using hb.lt t.right)];rfl
     ·rw[<-Array.append_assoc];refine Duo.Base.U0 (ma.set (p:=i) t.right z' (yE eG)) hc qH ak (λj h1 h2=>?_) (λj=>Ni _ _ _ _ _ _ _ _) (SK _ _ _ _ _ _ _ _ _);have e1:i≠j:=by rcases t with⟨rfl,rfl⟩|⟨rfl,rfl⟩<;>omega
      have e2:a≠j:=by rcases t with⟨rfl,rfl⟩|⟨rfl,rfl⟩<;>omega
      simp[Array.getElem?_setIfInBounds_ne e1,Array.getElem?_setIfInBounds_ne e2]
     ·simpa[World.setChan]using(Array.getElem?_eq_some_iff.1 qH).1
     ·have:=quiet (fn:=z'.frame.fn) (pos:=z'.frame.place) (p:=i) (.inr rfl) hp hb.mF eG;simp only[World.setChan,Array.size_setIfInBounds];exact this
     ·rw[Deaf_other T t.ne.symm _ (λop aR=>by obtain⟨e,_,rfl⟩:=Conc.mem_ofEvents aR;rfl)];exact hb.deaf t.left
     ·rw[Deaf_own,deafBehind_still (Ps eG)];exact hb.deaf t.right
    ·exact⟨_,_,0+n'+sumTo gs.size q+1,bt.trans (runT_crowd_go o0 lO),aa,.inl ⟨_,w.at d',bG,q,J,0,n',ya,y',rfl,qO t.ne oe (dY.stays (hb.at d').chans J8 rK) _ _,rS (hb.lt t.right) _ _,rK,qL,(hb.at d').step t.right (hb.at d').k hb.chans (Nat.le_refl _) (hb.rp.at d') (yE eG),quiet (.inr rfl) hp hb.mF eG,fE.at d',hJ,.inr oX,by rw[iB]⟩⟩
  ·obtain⟨i1,i2⟩:=t.Aq ea eb;obtain⟨g',es,q',eH,hm,aZ,cD⟩:=hb.leave i1 i2 hi hz d bG;refine⟨_,_,na+nb+sumTo gs.size q'+1,bt.trans eH,aa,.inl ⟨_,w.at d,bG,q',J,na,nb,ya,yb,rfl,qO (λe=>ea e.symm) oe (dY.stays hb.chans J8 rK) _ _,qO (λe=>eb e.symm) o0 (dY.stays hb.chans FZ rL) _ _,rK,rL,cD,?_,fE.at d,hJ,hn,by rw[iB]⟩⟩;exact hp.appMute (λ_ x=>x.app _) (λop aR=>by obtain⟨e,he,rfl⟩:=Conc.mem_ofEvents aR;exact touch_mute (hm e he)) (λop aR=>by obtain⟨e,he,rfl⟩:=Conc.mem_ofEvents aR;exact low_mute (hm e he) _)
end
end Go.Qw
