/- Part 35. -/
import Derived.Test.YtpiabknabfbfhaaGreatDoorFairly34
set_option linter.all false
set_option maxRecDepth 100000
set_option maxHeartbeats 8000000
namespace Go.Qw
open Go Go.Conc Go.Proofs Go.Proofs.Tryz
section
variable {E:Env prog}{H:Hid}{n:N}{X:Ext}{σ:Hp}{c:CN}
variable {A:Lay}{id:Int}
def aq.D2 (a:aq A H n X σ)(hc:n.ar id=some c):∃l k st,σ.f A.mc=some (aU aV l k)/\pg l k/\(l.map λe=>(e.1,e.2.1)).Perm (n.aF.map λe=>(e.1,pV (A.conn e.1)))/\dn l id=some (id,pV (A.conn id),st):=by obtain⟨l,k,h1,h2,h3⟩:=a.mc;obtain⟨st,bw⟩:=rE (k:=id) (v:=pV (A.conn id)) h2 h3 (List.mem_map.2 ⟨(id,c),iJ hc,rfl⟩);exact⟨l,k,st,h1,h2,h3,bw⟩
def aq.Ih {ety:TypeId}{ys:List Value}{v:Value}{τ:Hp}(a:aq A H n X σ)(l:σ.le τ)(hs:Sl ety τ ys v)(hf:∀a n c,v=.slice (some a) n c->σ.f a.block=none):
 ∃Y,aq A H n (Y++X) τ/\∀{A':Lay} {H':Hid} {n':N} {ae:Hp} {X':Ext},aq A' H' n' (Y++X') ae->Sl ety ae ys v:=by
 rcases hs.form with⟨h1,h2⟩|⟨b,pad,h1,h2⟩
 ·exact⟨[],a.le l,λa'=>by rw[h2];exact .nil h1⟩
 ·refine⟨[(b,.cells (ys++pad).toArray ety (0,0))],a.Nw l (hf _ _ _ h1) h2,λa'=>by rw[h1];exact .at b pad a'.eC⟩
def aq.Fq {Z Y:Ext}(a:aq A H n (Z++(Y++X)) σ):aq A H n (Z++X) σ:=by
 refine a.zr (λi=>if i<Z.length then i else i+Y.length) (λi hi=>?_) (λi j _ _ e=>by split at e<;>split at e<;>omega);split
 ·rename_i h;rw[List.getElem?_append_left h,List.getElem?_append_left h]
 ·rename_i h;rw[List.getElem?_append_right aa,List.getElem?_append_right aa,List.getElem?_append_right aa];congr 1;omega
def ak9 (a:aq A H n X σ){T:Int}{K:Nat}(ata:Ok T K [] n)(hT:T+400<=1000000000000)(hK:K+40000000<=100000000000000):
 ay E 39 #[pV A.gw] σ λe τ=>∃v Xp H',e=.returned v/\PX n.lQ.outs v Xp/\aq A H' n.lQ.clean (Xp++X) τ:=by
 refine aW func39 ntmps39 results39 λQ aC an aA=>?_;obtain⟨lc,kc,cB,dP,kL⟩:=a.mc;have AP:lc.length=n.aF.length:=by have:=kL.length_eq;simpa using this
 have mN:=ata.lc;refine aG a.jH ?_;refine aL (Mm cB dP.old dP.nd aa) ?_;rintro v τ ⟨hle,v',ys,hv,p1,p2,p3,p4⟩
 cases hv
 obtain rfl:ys=n.aF.map (·.1):=by
  refine zG A8 Fa (p1.trans ?_) (p2 aa) ?_
  ·have:=kL.map (·.1);simpa[List.map_map,Function.comp_def]using this
  ·have:=ata.sc;exact this.imp λh=>by simp[jN];omega
 obtain⟨X1,a1,qO⟩:=a.zY hle p3 p4;obtain⟨base,cap,rfl,_⟩:=p3.read;have hl:(n.aF.map (·.1)).length=n.aF.length:=al;refine aG hl ?_;refine dh (λm ρ ds ae=>ds=[]/\ρ 0=pV A.gw/\ρ 14=.slice base n.aF.length cap/\ρ 15=iV n.aF.length/\∃(j:Nat) (H':Hid),j+m=n.aF.length/\ρ 16=iV j/\aq A H' (n.leaves ((n.aF.map (·.1)).take j)) X1 ae) n.aF.length ?_ ?_
 ·refine⟨rfl,?_,?_,?_,0,H,al,?_,a1⟩<;>exact aK hl
 rintro m ρ ds cZ Y ⟨rfl,h0,lX,ky,j,H1,xi,wR,aj⟩ hY
 cases m with
 |succ m=>
  have hj:j<n.aF.length:=aa;have tI:j<(n.aF.map (·.1)).length:=aa;have c0:(j:Int)<n.aF.length:=aa;obtain⟨_,sj⟩:=qO aj;obtain⟨b2,yv,e2,r2⟩:=sj.read;simp only[Value.slice.injEq]at e2;obtain⟨rfl,_,_⟩:=e2;obtain⟨ba,L,rfl,gO,hL⟩:=r2 j (aZ hj);simp only[List.getElem_map,aV]at hL;have w1:=fF j;have hs:=aik (n:=n) tI;simp only[List.getElem_map]at hs;generalize fA:n.aF[j].1=id at*;have qA:(n.ar id).isSome:=lK.2 (by rw[<-fA];exact List.mem_map_of_mem (f:=(·.1)) (List.getElem_mem hj));obtain⟨cj,iN⟩:=Option.isSome_iff_exists.1 (Dz qA (Ej (n:=n) (l:=(n.aF.map (·.1)).take j)));obtain⟨lm,km,st,oM,yU,yV,J8⟩:=aj.D2 iN;have dk:((dn lm id).map (·.2.1)).getD (.pointer none)=pV (A.conn id):=by rw[J8];rfl
  have pM:=uy iN;simp only[go_sem,seval,lX,ky,wR,c0,decide_true];refine⟨aa,?_⟩;refine fB gO hL h0 aj.jH ?_;refine jM (b:=A.mc) (k:=id) (l:=lm) (c:=km) ud (z:=.pointer none) ah ?_ oM ?_ ?_
  ·exact au
  ·exact au
  rw[if_neg Bool.false_ne_true,dk];by_cases h5:cj.r.ph=5
  ·rw[if_pos (by rw[pM];exact h5)]at hs;refine bt (aj.eu iN) h5 ?_;refine aL (Ld aj iN ((ata.leaves).Fh iN)) ?_;rintro v2 cM ⟨lH,H2,a2⟩
   cases lH
   refine bt wR w1 ?_;refine hY m _ _ _ _ aa ⟨rfl,?_,?_,?_,j+1,H2,aa,?_,by rw[hs];exact a2⟩ ao
   ·exact aK h0
   ·exact aK lX
   ·exact aK ky
   ·exact au
  ·rw[if_neg (by rw[pM];exact h5)]at hs;refine fB (aj.eu iN) h5 wR w1 ?_;refine hY m _ _ _ _ aa ⟨rfl,?_,?_,?_,j+1,H1,aa,?_,by rw[hs];exact aj⟩ ao
   ·exact aK h0
   ·exact aK lX
   ·exact aK ky
   ·exact au
 |zero=>
  have c0:¬(j:Int)<n.aF.length:=aa;obtain rfl:j=n.aF.length:=aa;rw[show(n.aF.map (·.1)).take n.aF.length=n.aF.map (·.1)from List.take_of_length_le al]at aj;obtain⟨aj,_⟩:=qO aj;have hOl:=ata.leaves (l:=n.aF.map (·.1));simp only[go_sem,seval,h0,ky,wR,c0,decide_false,aj.jH];have afE:=Ug (E:=E) (J:=nH T K [] 400) (λn j=>j.Hi hT hK) (λn nm n' j h=>j.step h) aj hOl.Mc;refine aL afE ?_;rintro v3 dv ⟨Dv,⟨H3,a3⟩,J3⟩
  cases Dv
  rw[<-EC]at a3 J3;have Os:=J3.ok;have nd:=Os.nc;have arR:=Os.lc;obtain⟨ls,ks,jK,iw,Ds⟩:=a3.mc;have hls:ls.length=n.lQ.aF.length:=by have:=Ds.length_eq;simpa using this
  generalize hsn:n.lQ=s at*;refine bt h0 a3.jH ?_;refine aL (Mm jK iw.old iw.nd aa) ?_;rintro v fH ⟨nR,v',ys,hv,q1,q2,q3,q4⟩
  cases hv
  obtain rfl:ys=s.aF.map (·.1):=by
   refine zG A8 Fa (q1.trans ?_) (q2 aa) ?_
   ·have:=Ds.map (·.1);simpa[List.map_map,Function.comp_def]using this
   ·have:=Os.sc;exact this.imp λh=>by simp[jN];omega
  obtain⟨Y2,a4,zt⟩:=a3.Ih nR q3 q4;obtain⟨B5,qY,rfl,_⟩:=q3.read;have gR:(s.aF.map (·.1)).length=s.aF.length:=al;refine aG gR ?_;refine dh (λm ρ ds ae=>ds=[]/\ρ 0=pV A.gw/\ρ 43=.slice B5 s.aF.length qY/\ρ 44=iV s.aF.length/\∃(j:Nat) (H':Hid) (v:Value) (Xp:Ext),j+m=s.aF.length/\ρ 45=iV j/\ρ 6=v/\PX (s.os j) v Xp/\aq A H' (s.cl j) (Xp++(Y2++X)) ae) s.aF.length ?_ ?_
  ·refine⟨rfl,?_,?_,?_,0,H3,_,[],al,?_,rfl,?_,by rw[ZF];exact a4⟩<;>simp only[go_sem,seval,gR]
   ·exact h0
   ·exact .none rfl
  clear h0 lX ky wR;rintro m ρ ds cZ Y ⟨rfl,h0,vm,tA,j,H1,v0,Xp,xi,Aw,h6,CE,aj⟩ hY
  cases m with
  |succ m=>
   have hj:j<s.aF.length:=aa;have c0:(j:Int)<s.aF.length:=aa;have sj:=zt (aq.mC aj);obtain⟨b2,yv,e2,r2⟩:=sj.read;simp only[Value.slice.injEq]at e2;obtain⟨rfl,_,_⟩:=e2;obtain⟨ba,L,rfl,gO,hL⟩:=r2 j (aZ hj);simp only[List.getElem_map,aV]at hL;have w1:=fF j;have iN:=ZC nd hj;have kk:= @ZE s j nd hj;have kd:= @ZD s j nd hj;have ko:=akY hj;have cku:=IC nd hj;generalize fA:s.aF[j].1=id at*;generalize cP:s.aF[j].2=cj at*;obtain⟨lm,km,st,oM,yU,yV,J8⟩:=aj.D2 iN;have dk:((dn lm id).map (·.2.1)).getD (.pointer none)=pV (A.conn id):=by rw[J8];rfl
   simp only[go_sem,seval,vm,tA,Aw,c0,decide_true];refine⟨aa,?_⟩;refine fB gO hL h0 aj.jH ?_;refine jM (b:=A.mc) (k:=id) (l:=lm) (c:=km) ud (z:=.pointer none) ah ?_ oM ?_ ?_
   ·exact au
   ·exact au
   rw[if_neg Bool.false_ne_true,dk];by_cases ho:cj.r.out=[]
   ·simp only[go_sem,seval,aj.eu iN,ho,decide_true];have a5:=aq.nv aj iN λr=>{r with out:=[]};refine ag ?_;generalize Jy:Hp.set cZ (A.conn id) _=dr;replace a5:=dO a5 Jy;have kM:((s.cl j).bC id λr=>{r with out:=[]}).ar id=some {cj with r:={cj.r with out:=[]}}:=by rw[qh,if_pos rfl,iN];rfl
    by_cases h5:cj.r.ph=5
    ·refine bO h5 a5.jH h0 ?_;obtain⟨l5,k5,zI,Lj,DY,Ll,m54⟩:=a5.D2 kM;refine Ch (b:=A.mc) (k:=id) (l:=l5) (c:=k5) ud DY.uniq ?_ Lj ?_ ?_
     ·exact au
     ·exact au
     obtain⟨d1,d2⟩:=DZ DY Ll id
     have em:((((s.cl j).bC id λr=>{r with out:=[]}).aF.map λe=>(e.1,pV (A.conn e.1))).filter λe=>decide (e.1≠id))=(cF ((s.cl j).bC id λr=>{r with out:=[]}).aF id).map λe=>(e.1,pV (A.conn e.1)):=by unfold cF;rw[List.filter_map];rfl
     rw[em]at d2;have a6:=a5.OY id ⟨_,_,rfl,d1,d2⟩;rw[kd h5]at a6;refine bt Aw w1 ?_;refine hY m _ _ _ _ aa ⟨rfl,?_,?_,?_,j+1,H1,v0,Xp,aa,?_,?_,(by rw[ko,if_pos ho,List.append_nil];exact CE),a6⟩ ao
     ·exact aK h0
     ·exact aK vm
     ·exact aK tA
     ·exact au
     ·exact aK h6
    ·refine bO h5 Aw w1 ?_;rw[kk h5]at a5;refine hY m _ _ _ _ aa ⟨rfl,?_,?_,?_,j+1,H1,v0,Xp,aa,?_,?_,(by rw[ko,if_pos ho,List.append_nil];exact CE),a5⟩ ao
     ·exact aK h0
     ·exact aK vm
     ·exact aK tA
     ·exact au
     ·exact aK h6
   ·refine bt (aj.eu iN) ho ?_;refineλbn cz=>?_;have fr:=λo=>aj.fresh cz o;refine ag ?_;generalize yE:Hp.set cZ bn _=rO;have a6:=dO (fr _) yE;have JL:rO.f bn=some (.cells #[iV id,sV cj.r.out] 55 (0,0)):=by rw[<-yE];exact Hp.bD _ _
    refine Wa CE a6 (id:=id) (s:=cj.r.out) ?_ ?_ JL (by have:=akX (n:=s) (j:=j);omega) ?_
    ·exact aK h6
    ·exact au
    intro v7 Ns pc Qf a7;have a5:=aq.nv a7 iN λr=>{r with out:=[]};refine aG (a7.eu iN) ?_;generalize Jy:Hp.set pc (A.conn id) _=dr;replace a5:=dO a5 Jy;have kM:((s.cl j).bC id λr=>{r with out:=[]}).ar id=some {cj with r:={cj.r with out:=[]}}:=by rw[qh,if_pos rfl,iN];rfl
    by_cases h5:cj.r.ph=5
    ·refine bO h5 a5.jH h0 ?_;obtain⟨l5,k5,zI,Lj,DY,Ll,m54⟩:=a5.D2 kM;refine Ch (b:=A.mc) (k:=id) (l:=l5) (c:=k5) ud DY.uniq ?_ Lj ?_ ?_
     ·exact au
     ·exact au
     obtain⟨d1,d2⟩:=DZ DY Ll id
     have em:((((s.cl j).bC id λr=>{r with out:=[]}).aF.map λe=>(e.1,pV (A.conn e.1))).filter λe=>decide (e.1≠id))=(cF ((s.cl j).bC id λr=>{r with out:=[]}).aF id).map λe=>(e.1,pV (A.conn e.1)):=by unfold cF;rw[List.filter_map];rfl
     rw[em]at d2;have a6:=a5.OY id ⟨_,_,rfl,d1,d2⟩;rw[kd h5]at a6;refine bt Aw w1 ?_;refine hY m _ _ _ _ aa ⟨rfl,?_,?_,?_,j+1,H1,v7,Ns,aa,?_,?_,(by rw[ko,if_neg ho];exact Qf),a6⟩ ao
     ·exact aK h0
     ·exact aK vm
     ·exact aK tA
     ·exact au
     ·exact aK h6
    ·refine bO h5 Aw w1 ?_;rw[kk h5]at a5;refine hY m _ _ _ _ aa ⟨rfl,?_,?_,?_,j+1,H1,v7,Ns,aa,?_,?_,(by rw[ko,if_neg ho];exact Qf),a5⟩ ao
     ·exact aK h0
     ·exact aK vm
     ·exact aK tA
     ·exact au
     ·exact aK h6
  |zero=>
   have c0:¬(j:Int)<s.aF.length:=aa;obtain rfl:j=s.aF.length:=aa;rw[ZB]at aj;rw[akW]at CE;simp only[go_sem,seval,tA,Aw,h6,c0,decide_false];refine an aI ao ⟨v0,Xp,H1,by simp[up],CE,aj.Fq⟩
end
def xY(A:Lay)(n:N)(X:Ext)(σ:Hp):Prop:=∃A',qa A A'/\At A' n X σ
def N.more(n:N)(id:Int)(s:List UInt8):N:=n.bC id λr=>{r with rest:=r.rest++s}
variable {c:CN}
def N.fr(n:N)(id:Int):Int:=((n.ar id).map λ(c:CN)=>c.r.frame).getD 0
section
variable {E:Env prog}{H:Hid}{n:N}{X:Ext}{σ:Hp}{c:CN}
variable {A:Lay}{id:Int}
def qa.trans {A B C:Lay}(a:qa A B)(b:qa B C):qa A C:=⟨b.gw.trans a.gw,b.br.trans a.br,b.conn.trans a.conn⟩
def I4 (hc:n.ar id=some c):n.fr id=c.r.frame:=by unfold N.fr;rw[hc];rfl
def Cb (a:xY A n X σ)(hc:n.ar id=some c):∃m,σ.f (A.conn id)=some (.cells (c.r.vals A.gw id m).toArray 90 (0,0)):=by obtain⟨A',k,H,a⟩:=a;have:=a.conn hc;rw[k.conn,k.gw]at this;exact⟨_,this⟩
def Jb (A:Lay)(id:Int)(X:Ext):FS where
 γ:=N
 I:=λn σ=>pf id n/\xY A n X σ
 J:=λn σ=>xY A n X σ
 K:=λn σ=>(n.ar id).isSome/\xY A n X σ
 od:=λn s=>pf id (n.more id s)
 bc:=A.conn id
 bg:=A.gw
 bb:=A.br
 ph:=λn=>n.ph id
 fr:=λn=>n.fr id
 rest:=λn=>n.rest id
 nx:=λa u b=>pf id a/\u=(a.cut id).1/\b=(a.cut id).2
 un:=λb u c=>(∃a,pf id a/\a.ph id≠5/\u.idle=false/\u=(a.cut id).1/\b=(a.cut id).2)/\c=b.unit id u
 sv:=λc d=>d=c.serve
 add:=λn s=>n.more id s
 μ:=λn=>n.mu id
 conn:=by rintro a σ ⟨F,h⟩;obtain⟨c,hc⟩:=Option.isSome_iff_exists.1 F.is;obtain⟨m,hm⟩:=Cb h hc;exact⟨_,hm,⟨rfl,rfl,by rw[uy hc];rfl,by rw[I4 hc];rfl⟩,by rw[zx hc];rfl⟩
 Cb:=by rintro a σ ⟨is,h⟩;obtain⟨c,hc⟩:=Option.isSome_iff_exists.1 is;obtain⟨m,hm⟩:=Cb h hc;exact⟨_,hm,⟨rfl,rfl,by rw[uy hc];rfl,by rw[I4 hc];rfl⟩⟩
 gate:=by rintro a σ ⟨is,A',k,H,h⟩;have:=h.gw;rw[k.gw,k.br]at this;exact⟨_,this,rfl,rfl⟩
 grow:=by
  rintro a σ l s fV ⟨F,A',k,H,h⟩ hl;refine⟨fV,A',k,H,?_⟩;obtain⟨c,hc⟩:=Option.isSome_iff_exists.1 F.is;have h1:=h.conn hc;have h2:=h.nv hc λr=>{r with rest:=r.rest++s};rw[k.conn,k.gw]at h1 h2
  have e:l=c.r.vals A.gw id (H.chm id):=by rw[h1]at hl;simp only[Option.some.injEq,fi,Obj.cells.injEq,and_true]at hl;exact(List.toArray_inj hl).symm
  subst e;rw[zx hc];exact h2
 small:=by rintro a σ ⟨F,_⟩;exact F.rest
 Tz:=λa s=>vZ (Kp.bC λ_=>rfl)
 PH:=λa s=>by unfold N.fr N.more;rw[qh,if_pos rfl,Option.map_map];rfl
 next:=by rintro E a σ ⟨F,A',k,H,h⟩;obtain⟨c,hc⟩:=Option.isSome_iff_exists.1 F.is;obtain⟨T,K,ata,_,_⟩:=F.ex;have gP:=(ata.c _ _ hc).r.frame;have h1:=h.conn hc;rw[k.conn,k.gw]at h1;have h2:=h.nv hc λr=>{r with kx:=(ft c.r.kx c.r.rest c.r.frame).2.1,rest:=(ft c.r.kx c.r.rest c.r.frame).2.2};rw[k.conn,k.gw]at h2;have hn:=ajB (E:=E) (l:=c.r.vals A.gw id (H.chm id)) (s:=c.r.rest) (size:=c.r.frame) (gr:=c.r.kx) h1 rfl rfl ⟨aa,aa⟩;rw[I4 hc];refine hn.mono λe τ ⟨e1,e2⟩=>⟨(a.cut id).1,(a.cut id).2,⟨F,rfl,rfl⟩,⟨A',k,H,?_⟩,by rw[Cd hc];exact e1⟩;rw[Cd hc];exact h2.le e2
 unit:=by rintro E a u b σ hp ⟨F,rfl,rfl⟩ hi ⟨A',k,H,h⟩;obtain⟨c,hc⟩:=Option.isSome_iff_exists.1 F.is;obtain⟨T,K,ata,hT,hK⟩:=F.ex;have kc:=Ce ata hc;have O1:=ata.cut hc;have cB:=yw hc;have P7:=apC (E:=E) (u:=(a.cut id).1) h cB O1.cfg.ok (by have:=(O1.c _ _ cB).r.out;omega) (O1.Fh cB) (λ_ _ _=>abE h cB O1 aa aa kc.pay kc.ch);rw[k.conn]at P7;refine P7.mono ?_;rintro e τ ⟨rfl,A2,k2,h2⟩;exact⟨_,⟨⟨a,F,hp,hi,rfl,rfl⟩,rfl⟩,⟨(Kp.unit A3).is (by rw[cB];rfl),A2,k.trans k2,h2⟩,rfl⟩
 serve:=by rintro E b u c σ ⟨⟨a,F,hp,hi,rfl,rfl⟩,rfl⟩ ⟨is,A',k,H,h⟩;obtain⟨c0,hc⟩:=Option.isSome_iff_exists.1 F.is;obtain⟨T,K,ata,hT,hK⟩:=F.ex;have kc:=Ce ata hc;have O1:=ata.cut hc;have O2:=O1.unit (id:=id) (u:=(a.cut id).1) kc.pay kc.ch.1 (by rw[yw hc];rfl);have hs:=Ug (E:=E) (J:=nH (T+1) (K+102000) [] 400) (λn j=>j.Hi aa aa) (λn nm n' j h=>j.step h) h O2.Mc;rw[k.br]at hs;refine hs.mono ?_;rintro e τ ⟨rfl,h2,_⟩;exact⟨_,rfl,⟨(F.step hp hi).1,A',k,h2⟩,rfl⟩
 idle:=by rintro a u b σ ⟨F,rfl,rfl⟩ hi h;exact⟨(F.Z8 hi).1,h⟩
 dec:=by rintro a u b c d hp ⟨F,rfl,rfl⟩ hi ⟨_,rfl⟩ rfl;exact(F.step hp hi).2
def Pw {f:Nat}(h:n.ph id=5):n.lv (f+1) id=n:=by unfold N.lv;exact if_pos h
def abi {f:Nat}(h:n.ph id≠5)(hi:(n.cut id).1.idle=true):n.lv (f+1) id=(n.cut id).2:=by unfold N.lv;rw[if_neg h,if_pos hi]
def abj {f:Nat}(h:n.ph id≠5)(hi:(n.cut id).1.idle=false):n.lv (f+1) id=(((n.cut id).2.unit id (n.cut id).1).serve).lv f id:=by rw[N.lv,if_neg h,if_neg (by rw[hi];simp)]
def acP {A:Lay}{id:Int}{X:Ext}{a b:(Jb A id X).γ}(h:(Jb A id X).Loop a b):∀f,N.mu a id<f->N.lv f a id=b:=by
 induction h with
 |gone hp=>
  intro f hf
  cases f with
  |zero=>omega
  |succ f=>exact Pw hp
 |idle hp hn hi=>
  obtain⟨F,rfl,rfl⟩:=hn;intro f hf
  cases f with
  |zero=>omega
  |succ f=>exact abi hp hi
 |step hp hn hi hu hs _ ih=>
  obtain⟨F,rfl,rfl⟩:=hn;obtain⟨_,rfl⟩:=hu;obtain rfl:=hs;intro f hf
  cases f with
  |zero=>omega
  |succ f=>
   have:=(F.step hp hi).2;exact(abj hp hi).trans (ih f aa)
def abh {W:World}{φ:Hp}{s:List UInt8}(F:pf id n)(F2:pf id (n.more id s))(h:xY A n X σ)(hp:n.ph id≠5)(hs:s.length<=4611686018427387904){f:Nat}(hf:(n.more id s).mu id<f):
 ay (uK W φ) 40 #[pV (A.conn id),sV s] σ λe τ=>e=.returned (.tuple #[])/\xY A ((n.more id s).lv f id) X τ:=by
 refine(abm (Jb A id X) (W:=W) (φ:=φ) (a:=n) (ch:=s) F2 ⟨F,h⟩ hp hs).mono ?_;rintro e τ ⟨rfl,b,hl,hI⟩;refine⟨rfl,?_⟩;have:=acP hl f hf;have h2:xY A b X τ:=hI.2;rw[<-this]at h2;exact h2
end
def Gw(g:Nat)(n:N)(X:Ext)(σ:Hp):Prop:=∃A,A.gw=g/\At A n X σ
section
variable {E:Env prog}{H:Hid}{n:N}{X:Ext}{σ:Hp}{c:CN}{g:Nat}{T:Int}
variable {A:Lay}{id:Int}
def aq.ai1 (a:aq A H n X σ)(hc:n.ar id=none):∃l k,σ.f A.mc=some (aU aV l k)/\dn l id=none:=by obtain⟨l,k,h1,h2,h3⟩:=a.mc;refine⟨l,k,h1,map_none h3 λe he hx=>?_⟩;obtain⟨e0,h0,rfl⟩:=List.mem_map.1 he;exact iK hc e0 h0 hx
def Nj (g:Nat)(m:N)(X:Ext)(ev:Value->Fin)(e:Fin)(τ:Hp):Prop:=∃v Xp,e=ev v/\PX m.outs v Xp/\Gw g m.clean (Xp++X) τ
def Pv {W:World}{φ:Hp}{s:List UInt8}(h:Gw g n X σ)(I:Inv T n)(hs:s.length<=900000)(hT:T+402*(s.length+4107:Nat)+2000<=1000000000000):
 ay (uK W φ) 25 #[pV g,iV id,sV s] σ λe τ=>match n.ar id with
  |none=>e=.returned (.tuple #[.slice none 0 0,.iface 51 (iV 3)])/\τ=σ
  |some _=>Nj g (n.feed id s) X (λv=>.returned (.tuple #[v,.nilIface])) e τ:=by
 obtain⟨A,rfl,H,a⟩:=h
 cases hc:n.ar id with
 |none=>
  obtain⟨l,k,h1,h2⟩:=a.ai1 hc;exact abg a.gw h1 h2
 |some c=>
  simp only[];obtain⟨l,k,st,h1,h2,h3,h4⟩:=a.D2 hc
  have fin:∀{m:N} {A':Lay} {cC:Hp},qa A A'->At A' m X cC->(ata:∃T K,Ok T K [] m/\T+400<=1000000000000/\K+40000000<=100000000000000)->m.lQ=n.feed id s->
   ay (uK W φ) 39 #[pV A.gw] cC λe' cC=>∃v,e'=.returned v/\Nj A.gw (n.feed id s) X (λv=>.returned (.tuple #[v,.nilIface])) (.returned (.tuple #[v,.nilIface])) cC:=by
   rintro m A' cC k ⟨H',a'⟩ ⟨T,K,ata,o1,o2⟩ he;have:=ak9 (E:=uK W φ) a' ata o1 o2;rw[k.gw]at this;refine this.mono ?_;rintro e τ ⟨v,Xp,H2,rfl,hp,h2⟩;rw[he]at hp h2;exact⟨v,rfl,v,Xp,rfl,hp,A',k.gw,H2,h2⟩
  by_cases fD:s=[]
  ·subst fD;refine abf a.gw h1 h4 (fin (.refl A) ⟨H,a⟩ ⟨T,0,I.ok,aa,aa⟩ ?_);unfold N.feed;rw[if_pos rfl]
  ·refine abe a.gw h1 h4 (a.conn hc) fD ?_;have a1:=a.nv hc λr=>{r with recv:=n.clock}
   have hm:(n.bC id λr=>{r with recv:=n.clock}).more id s=n.recv id s:=by unfold N.more N.recv N.bC;rw[ML]
   have hr:=TX (s:=s) hc;have AU:=I.rest id;have O1:Ok T 0 [] (n.bC id λr=>{r with recv:=n.clock}):=I.ok.bC (Nat.le_refl _) λc hc=>⟨(I.ok.c _ _ hc).r.out,(I.ok.c _ _ hc).r.frame,(I.ok.c _ _ hc).r.dg⟩;have r1:(n.bC id λr=>{r with recv:=n.clock}).rest id=n.rest id:=T0 (f:=λr=>{r with recv:=n.clock}) λ_=>rfl;have m1:=GU (n:=n.bC id λr=>{r with recv:=n.clock}) (id:=id);have m2:=GU (n:=n.recv id s) (id:=id);rw[r1]at m1;rw[hr,List.length_append]at m2
   have F1:pf id (n.bC id λr=>{r with recv:=n.clock}):=by
    refine⟨⟨T,0,O1,?_,?_⟩,ze (by rw[hc];rfl),by rw[r1];omega⟩
    ·omega
    ·omega
   have F2:pf id ((n.bC id λr=>{r with recv:=n.clock}).more id s):=by
    rw[hm];refine⟨⟨T,0,I.ok.recv,?_,?_⟩,Sc (by rw[hc];rfl),by rw[hr,List.length_append];omega⟩
    ·omega
    ·omega
   have pM:(n.bC id λr=>{r with recv:=n.clock}).ph id≠5:=by have:(n.bC id λr=>{r with recv:=n.clock}).ph id=n.ph id:=vZ (Kp.bC λ_=>rfl);rw[this,uy hc];exact I.ph _ _ hc
   have Cv:=abh (W:=W) (φ:=φ) (s:=s) (f:=((n.recv id s).rest id).length+2) F1 F2 ⟨A,.refl A,H,a1⟩ pM aa (by rw[hm,hr,List.length_append];omega);rw[hm]at Cv;refine Cv.mono ?_;rintro e τ ⟨rfl,A',k,h5⟩;refine⟨rfl,fin k h5 ?_ ?_⟩
   ·have f1:=I.ok.vk (s:=s) hc;exact⟨_,_,f1.ok,aa,aa⟩
   ·unfold N.feed;rw[if_neg fD];rfl
def ZZ (h:Gw g n X σ)(I:Inv T n)(hl:n.aF.length<=3)(ma:n.last<=1000000000):
 ay E 37 #[pV g] σ λe τ=>e=.returned (.tuple #[iV (n.last+1),.nilIface])/\Gw g n.connect X τ:=by
 obtain⟨A,rfl,H,a⟩:=h;obtain⟨l,k,h1,h2,h3⟩:=a.mc;have h0:=I.ok.last;have Gd:l.length=n.aF.length:=by have:=h3.length_eq;simpa using this
 refine(ZY a.gw h1 aa h2.uniq aa aa).mono ?_;rintro e τ ⟨b,m,rfl,hb,hm,aE,rfl⟩;refine⟨rfl,?_⟩;have dY:=I.ok.Ly;have a1:=a.anI n.clock (n.last+1);have FX:∀{x:Nat},σ.f x=none->¬x=A.gw:=λhx e=>by rw[e,a.gw]at hx;cases hx
 have Gf:=D1 h2 h3 (k:=n.last+1) (λe he hx=>by
  obtain⟨e0,h0,rfl⟩:=List.mem_map.1 he
  exact iK dY e0 h0 hx) (pV b)
 have a2:=a1.ajt (id:=n.last+1) (m:=m) (b:=b) ⟨I.ok.w.un,I.ok.w.xq,I.ok.w.xh,I.ok.w.co,I.ok.w.qc⟩ dY ((Hp.az (FX hm)).trans hm) ((Hp.az (FX hb)).trans hb) aE ⟨0,[],false,0,n.cfg.frame,0,n.clock,n.clock,[]⟩ (o:=aU aV (ji l (n.last+1) (pV b) k) (ju l (n.last+1) k)) ⟨_,_,rfl,Gf.1,?_⟩
 ·exact⟨A.qQ (n.last+1) b,rfl,_,a2⟩
 ·refine Gf.2.trans ?_;rw[List.map_append]
  have e1:(n.aF.map λe=>(e.1,pV ((A.qQ (n.last+1) b).conn e.1)))=n.aF.map λe=>(e.1,pV (A.conn e.1)):=List.map_congr_left λe he=>by have:¬e.1=n.last+1:=iK dY e he;simp[Lay.qQ,this]
  rw[e1];have e2:([(n.last+1,(⟨⟨0,[],false,0,n.cfg.frame,0,n.clock,n.clock,[]⟩,[]⟩:CN))].map λe=>(e.1,pV ((A.qQ (n.last+1) b).conn e.1)))=[(n.last+1,pV b)]:=by simp[Lay.qQ]
  rw[e2];exact(List.perm_append_singleton _ _).symm
structure Base (σ:Hp) (L1:List Value):Prop where
 b0:σ.f 0=some (.cells #[rT 45] 143 (0,0))
 b1:σ.f 1=some (.cells L1.toArray 396 (0,0))
 l1:L1=Ef
def ajq {cfg:jA}{L1:List Value}(hb:Base σ L1)(G:EY cfg)(hq:1<=cfg.queue)(hc:1<=cfg.jc)(CP:cfg.gh<=50)(lZ:0<=cfg.body):
 ay E 32 #[.agg cfg.vals.toArray] σ λe τ=>∃g,e=.returned (.tuple #[pV g,.nilIface])/\Gw g (N.new cfg) [] τ:=by
 have g1:=G.jc;have g2:=G.frame;have g3:=G.queue;have g4:=G.body;have g5:=G.ok.gh;refine(ajp aa aa aa aa aa aa aa aa aa aa).mono ?_;rintro e τ ⟨g,br,mq,mc,rfl,k1,k2,k3,k4,n1,n2,n3,n4,n5,n6,rfl⟩;have h0:=hb.b0;have h1:=hb.b1;have z0:∀{x:Nat},σ.f x=none->¬0=x:=λhx e=>by subst e;rw[h0]at hx;cases hx
 have z1:∀{x:Nat},σ.f x=none->¬1=x:=λhx e=>by subst e;rw[h1]at hx;cases hx
 refine⟨g,rfl,⟨g,br,mq,mc,λ_=>0,λ_ _=>0,λ_ _=>0,λ_ _=>0,λ_=>0,λ_=>0,L1,hb.l1⟩,rfl,⟨λ_=>0,λ_=>.nilIface,λ_=>.nilIface⟩,⟨λr v hv=>?_,λr r' hr ig he=>?_⟩⟩
 ·cases r with
  |b0=>cases hv;exact⟨_,by show Hp.f _ 0=_;rw[Hp.az (z0 k1),Hp.az (z0 k4),Hp.az (z0 k2),Hp.az (z0 k3)];exact h0,rfl⟩
  |b1=>cases hv;exact⟨_,by show Hp.f _ 1=_;rw[Hp.az (z1 k1),Hp.az (z1 k4),Hp.az (z1 k2),Hp.az (z1 k3)];exact h1,rfl⟩
  |gw=>cases hv;exact⟨_,aY,rfl⟩
  |br=>cases hv;exact⟨_,by show Hp.f _ br=_;rw[Hp.az (λe=>n5 e.symm),Hp.az (λe=>n3 e.symm)];exact Hp.bD _ _,rfl⟩
  |mq=>cases hv;exact⟨_,by show Hp.f _ mq=_;rw[Hp.az (λe=>n4 e.symm),Hp.az (λe=>n2 e.symm),Hp.az (λe=>n1 e.symm)];exact Hp.bD _ _,[],0,rfl,⟨by simp[jD],al,al⟩,by simp[N.new]⟩
  |mc=>cases hv;exact⟨_,by show Hp.f _ mc=_;rw[Hp.az (λe=>n6 e.symm)];exact Hp.bD _ _,[],0,rfl,⟨by simp[jD],al,al⟩,by simp[N.new]⟩
  |_=>cases hv
 ·have q1:=z0 k1;have q2:=z0 k2;have q3:=z0 k3;have q4:=z0 k4;have p1:=z1 k1;have p2:=z1 k2;have p3:=z1 k3;have p4:=z1 k4
  cases r<;>cases r'<;>first|rfl|(cases hr;done)|(cases ig;done)|(exfalso;simp only[cD]at he;omega)
end
inductive SX {α:Type} (f:α->List Value) (z:Nat) (e:TypeId) (l:List α):Value->Ext->Prop
 |none:l=[]->SX f z e l (.slice Option.none 0 0) []
 |at(a c:Nat) (pad:List Value):l.length<=c->z*(c-l.length)<=pad.length->SX f z e l (.slice (some ⟨a,0,Option.none⟩) l.length c) [(a,.cells (l.flatMap f++pad).toArray e (0,0))]
def abv{α:Type}{f:α->List Value}{z:Nat}(hf:∀a,(f a).length=z)(l:List α):(l.flatMap f).length=z*l.length:=by
 induction l with
 |nil=>rfl
 |cons e l ih=>rw[List.flatMap_cons,List.length_append,ih,hf,List.length_cons,Nat.mul_succ];omega
section
variable {E:Env prog}{H:Hid}{n:N}{X:Ext}{σ:Hp}{c:CN}{g:Nat}{ρ:av}{ds:List Deferred}{dst:Option Tmp}{ty:TypeId}{pos:String}{af:Array Edge}{nx:av->List Deferred->Hp->Prop}{pn:List PanicEntry->Hp->Prop}
variable {A:Lay}{id:Int}
variable {g:Option (Nat×Bool)}
def Vn {t:TypeId}(el:ou prog t)(hz:el.zero.size=el.z)(k:Nat):(Builtin.zeroCells el.zero k).toList.length=k*el.z:=by rw[Array.length_toList];simp[Builtin.zeroCells,hz]
def Wb {α:Type}{f:α->List Value}{t u:TypeId}(el:ou prog t)(hu:Bh prog u=true)(hf:∀a,(f a).length=el.z)(hz:el.zero.size=el.z)(hby:el.bytes<=100)(RX:1<=el.z)(kA:∀a,(f a).toArray.all de=true)
 {x y:Operand} {l:List α} {v0:Value} {Xp:Ext} {m:α} {bn:Nat} (hv:SX f el.z el.e l v0 Xp) (a:aq A H n (Xp++X) σ) (hx:ak ρ x=v0) (hy:ak ρ y=.slice (some ⟨bn,0,none⟩) 1 1) (cz:σ.f bn=some (.cells (f m).toArray el.e (0,0))) (fM:l.length<=1000000)
 (h:∀v' BY τ,SX f el.z el.e (l++[m]) v' BY->aq A H n (BY++X) τ->nx (aB ρ dst v') ds τ):
 aT E ⟨dst,.call ⟨.builtin .append,#[x,y],#[t,u]⟩,ty,pos,af,g⟩ ρ ds σ nx pn:=by
 have hn:sN (ak ρ y)=some 1:=by rw[hy];rfl
 have tK:(f m).toArray.size=el.z:=by simp[hf]
 have iF:iL σ el.z 1 (ak ρ y)=some (f m).toArray:=by
  rw[hy];show cellsOf σ ⟨bn,0,none⟩ (1*el.z)=_;have e:0+1*el.z<=(f m).length:=by rw[hf];omega
  simp only[cellsOf,cz,List.size_toArray,true_and,if_pos e];congr 1;apply Array.ext';have e5:(f m).take el.z=f m:=List.take_of_length_le (by rw[hf];exact Nat.le_refl _);simp[e5]
 have gR:∀n,n<=1000000->(2*(n+1)+192)*el.bytes<=2^48:=by intro n hn;have:=Nat.mul_le_mul_left (2*(n+1)+192) hby;omega
 have hfm:(l++[m]).flatMap f=l.flatMap f++f m:=al;have Gd:=abv hf l
 cases hv with
 |none h0=>
  subst h0;refine rW el (base:=none) (l:=0) (c:=0) (n:=1) (old:=#[]) (new:=_) hu hx hn rfl iF (gR 0 aa) aa (λhc=>aa) ?_;intro hc b cap eS jJ;have a1:=aq.iH (X:=X) a eS (.cells (#[]++(f m).toArray++Builtin.zeroCells el.zero (cap-(0+1))) el.e);refine h _ [_] _ (.at b cap (Builtin.zeroCells el.zero (cap-1)).toList (aZ jJ) (by rw[Vn el hz,Nat.mul_comm];simp)) ?_
  have e:(([]++[m]).flatMap f++(Builtin.zeroCells el.zero (cap-1)).toList).toArray= #[]++(f m).toArray++Builtin.zeroCells el.zero (cap-(0+1)):=by apply Array.ext';simp
  rw[e];exact a1
 |«at»b c pad h1 h2=>
  have h3:σ.f b=some (.cells (l.flatMap f++pad).toArray el.e (0,0)):=aq.eC (X:=X) a;have e2:l.length*el.z=(l.flatMap f).length:=by rw[Gd,Nat.mul_comm]
  have hold:iL σ el.z l.length (.slice (some ⟨b,0,none⟩) l.length c)=some (l.flatMap f).toArray:=by show(cellsOf σ ⟨b,0,none⟩ (l.length*el.z))=_;have e:0+l.length*el.z<=(l.flatMap f).length+pad.length:=aa;simp only[cellsOf,h3,List.size_toArray,List.length_append,true_and,if_pos e];congr 1;apply Array.ext';simp[e2]
  refine rW el (base:=some ⟨b,0,none⟩) (l:=l.length) (c:=c) (n:=1) (old:=(l.flatMap f).toArray) (new:=_) hu hx hn hold iF (gR _ fM) aa ?_ ?_
  ·intro hc
   have sD:el.z<=pad.length:=by refine Nat.le_trans ?_ h2;have:el.z*1<=el.z*(c-l.length):=Nat.mul_le_mul_left _ aa;omega
   have e3:((l.flatMap f++pad).toArray.extract 0 (0+l.length*el.z)++(f m).toArray++(l.flatMap f++pad).toArray.extract (0+l.length*el.z+(f m).toArray.size) (l.flatMap f++pad).toArray.size)=((l++[m]).flatMap f++pad.drop el.z).toArray:=by rw[hfm,Nat.zero_add,e2,tK];generalize l.flatMap f=L;have d1:(L++pad).take L.length=L:=List.take_left' rfl;have d2:(L++pad).drop (L.length+el.z)=pad.drop el.z:=List.drop_length_add_append ..;apply Array.ext';simp only[Array.toList_append,Array.toList_extract,List.extract_eq_take_drop,List.drop_zero,Nat.sub_zero,List.size_toArray,d1,d2];rw[List.take_of_length_le (by simp only[List.length_append,List.length_drop];omega)]
   refine⟨_,⟨_,_,h3,rfl,?_,kA m,rfl⟩,?_⟩
   ·show 0+l.length*el.z+(f m).toArray.size<=_;rw[tK];simp only[List.size_toArray,List.length_append];omega
   ·show nx _ _ (σ.set b (.cells ((l.flatMap f++pad).toArray.extract 0 (0+l.length*el.z)++(f m).toArray++(l.flatMap f++pad).toArray.extract (0+l.length*el.z+(f m).toArray.size) (l.flatMap f++pad).toArray.size) el.e (0,0)));rw[e3];have e4:l.length+1=(l++[m]).length:=al;rw[e4];refine h _ [(b,_)] _ (.at b c (pad.drop el.z) (by simp;omega) ?_) (aq.uD (X:=X) a _);rw[List.length_drop,List.length_append,List.length_singleton]
    have e5:el.z*(c-l.length)=el.z*(c-(l.length+1))+el.z:=by rw[<-Nat.mul_succ];congr 1;omega
    omega
  ·intro hc b' cap eS jJ;have a1:=aq.iH a eS (.cells ((l.flatMap f).toArray++(f m).toArray++Builtin.zeroCells el.zero (cap-(l.length+1))) el.e)
   have e:((l++[m]).flatMap f++(Builtin.zeroCells el.zero (cap-(l.length+1))).toList).toArray=(l.flatMap f).toArray++(f m).toArray++Builtin.zeroCells el.zero (cap-(l.length+1)):=by apply Array.ext';simp
   have e4:l.length+1=(l++[m]).length:=al;rw[<-e]at a1|-;rw[e4]at a1|-;refine h _ [(b',_)] _ (.at b' cap (Builtin.zeroCells el.zero (cap-(l++[m]).length)).toList (aZ jJ) (by rw[Vn el hz,Nat.mul_comm];omega)) ?_
   exact a1.zr (λi=>if i=0 then 0 else i+1) (λi hi=>by
    cases i with
    |zero=>rfl
    |succ i=>rfl) (λi j _ _ e=>by split at e<;>split at e<;>omega)
end
structure QS where
 name:List UInt8
 ready:Int
 held:Int
 cons:Int
def QS.vals(q:QS):List Value:=[sV q.name,iV q.ready,iV q.held,iV q.cons]
def N.og(n:N):List QS:=n.aN.map λe=>⟨e.1,e.2.ready.length,e.2.held,e.2.cons.length⟩
def aaK:ou prog 34 where
 e:=39
 z:=4
 zero:=#[.string (B []),.int .i64 0,.int .i64 0,.int .i64 0]
 bytes:=40
 hu:=ah
 hi:=⟨t39,.agg #[.string (B []),.int .i64 0,.int .i64 0,.int .i64 0],ah,ah,ah,rfl,ah⟩
section
variable {E:Env prog}{H:Hid}{n:N}{X:Ext}{σ:Hp}
variable {A:Lay}{id:Int}
def aog (a:aq A H n X σ)(afD:dM cL (n.aN.map (·.1)))(hlen:n.aN.length<=12):
 ay E 34 #[pV A.br] σ λe τ=>∃v Y,e=.returned v/\aq A H n (Y++X) τ/\Sl 77 τ ((n.aN.map λe=>A.queue e.1).map dU) v/\∀{A':Lay} {H':Hid} {n':N} {ae:Hp} {X':Ext},aq A' H' n' (Y++X') ae->Sl 77 ae ((n.aN.map λe=>A.queue e.1).map dU) v:=by
 obtain⟨lq,kq,jf,gD,lE⟩:=a.mq;have Rl:lq.length=n.aN.length:=by have:=lE.length_eq;simpa using this
 obtain⟨nf,yY⟩:∃nf:Nat->List UInt8,∀e∈n.aN,nf (A.queue e.1)=e.1:=by
  refine⟨λb=>((n.aN.find? λe=>decide (A.queue e.1=b)).map (·.1)).getD [],λe he=>?_⟩
  cases hf:n.aN.find? λe'=>decide (A.queue e'.1=A.queue e.1)with
  |none=>have:=List.find?_eq_none.1 hf e he;simp at this
  |some e'=>
   have h1:=List.find?_some hf;simp only[decide_eq_true_eq]at h1;have:=a.inj (.queue e'.1) (.queue e.1) (by have:=xx (List.mem_of_find?_eq_some hf);simpa[view]using this) (by have:=xx he;simpa[view]using this) (by simpa[cD]using h1);injection this with e1;simp only[hf];simpa using e1
 have sD:=lE.map (·.2);simp only[List.map_map]at sD;obtain⟨qs,y7,mR⟩:=zn sD (xs:=n.aN.map λe=>A.queue e.1) (f:=dU) (by simp[List.map_map,Function.comp_def,dU])
 have Kf:qd σ nf qs:=by intro b hb;obtain⟨e,he,rfl⟩:=List.mem_map.1 (y7.mem_iff.1 hb);obtain⟨q,hq⟩:=Option.isSome_iff_exists.1 (xx he);exact⟨_,a.sY hq,by simp[yY e he]⟩
 refine(Ux a.tp rfl jf gD.old gD.nd aa (by simpa[Function.comp_def]using mR) Kf).mono ?_;rintro e τ ⟨hle,v,ys,rfl,p1,p2,p3,p4⟩
 have vI:ys=n.aN.map λe=>A.queue e.1:=by
  have e1:ys.map nf=n.aN.map (·.1):=by
   refine zG vR Io (((p1.trans y7).map nf).trans ?_) ?_ afD
   ·rw[List.map_map];have:(n.aN.map (nf∘λe=>A.queue e.1))=n.aN.map (·.1):=List.map_congr_left λe he=>yY e he;rw[this]
   ·rw[dM,List.pairwise_map];exact p2
  have e2:ys.map (λb=>A.queue (nf b))=ys:=by
   conv=>rhs;rw[<-List.map_id ys]
   apply List.map_congr_left;intro b hb;obtain⟨e,he,rfl⟩:=List.mem_map.1 ((p1.trans y7).mem_iff.1 hb);simp[yY e he]
  rw[<-e2];have:=congrArg (List.map A.queue) e1;simpa[List.map_map,Function.comp_def]using this
 subst vI;obtain⟨Y,a1,qO⟩:=a.Ih hle p3 p4;exact⟨v,Y,rfl,a1,p3,qO⟩
end
section
variable {E:Env prog}{H:Hid}{n:N}{X:Ext}{σ:Hp}{c:CN}{g:Nat}{T:Int}{ρ:av}{ds:List Deferred}
variable {A:Lay}{id:Int}
def VH (g:Nat)(n:N)(X:Ext)(e:Fin)(τ:Hp):Prop:=∃qv cv Xq Y,e=.returned (.agg #[qv,cv])/\SX QS.vals 4 39 n.og qv Xq/\Gw g n (Xq++(Y++X)) τ/\Sl 3 τ ((n.aF.map (·.1)).map aV) cv
def aoP:cq prog 36=2:=ah
def aho:dm prog 36=true:=ah
def aib {τ:Hp}{b:Nat}{a1 a2:Value}{e:Nat}(h:τ.f b=some (.cells #[a1,a2] e (0,0))):iQ prog 36 ⟨b,0,none⟩ τ=some (.agg #[a1,a2]):=by unfold iQ;rw[if_pos VS,aoP];simp[cellsOf,h]
def aq.Uk {Z:Ext}{b:Nat}{o:Obj}(a:aq A H n (Z++(b,o)::X) σ)(o':Obj):aq A H n (Z++(b,o')::X) (σ.set b o'):=by have:=a.zE (i:=Z.length) (p:=(b,o)) al o';simpa[List.set_append]using this
def anB {K:Nat}{ex:List Int}(h:Gw g n X σ)(ata:Ok T K ex n):ay E 22 #[pV g] σ (VH g n X):=by
 obtain⟨A,rfl,H,a⟩:=h;refine aW func22 ntmps22 results22 λQ aC an aA=>?_;obtain⟨lc,kc,cB,dP,kL⟩:=a.mc;have AP:lc.length=n.aF.length:=by have:=kL.length_eq;simpa using this
 have mN:=ata.lc;have hl8:=ata.lq;refine ag ?_;refineλb2 eQ=>?_;have g2:=λo=>(a.iH eQ o).jH;have a2:=a.iH eQ (.cells [.slice none 0 0,.slice none 0 0].toArray 36 (0,0));simp only[go_sem,seval,g2];generalize vp:Hp.set σ b2 _=iZ;replace a2:=dO a2 vp;obtain⟨lc,kc,cB,dP,kL⟩:=a2.mc;have AP:lc.length=n.aF.length:=by have:=kL.length_eq;simpa using this
 refine aL (Mm cB dP.old dP.nd aa) ?_;rintro cv τ ⟨hle,v',ys,hv,p1,p2,p3,p4⟩
 cases hv
 obtain rfl:ys=n.aF.map (·.1):=by
  refine zG A8 Fa (p1.trans ?_) (p2 aa) ?_
  ·have:=kL.map (·.1);simpa[List.map_map,Function.comp_def]using this
  ·have:=ata.sc;exact this.imp λh=>by simp[jN];omega
 obtain⟨Yc,a3,amZ⟩:=a2.Ih hle p3 p4;obtain⟨Ag,Ah,rfl,_⟩:=p3.read;refine ag ?_;refineλb3 gN=>?_;have g3:=λo=>(a3.iH gN o).tp;have h3:=λo=>(a3.iH gN o).jH;have a4:=a3.iH gN (.cells [.slice none 0 0,.slice Ag (n.aF.map (·.1)).length Ah].toArray 36 (0,0));refine aG h3 ?_;rw[Hp.set_set];generalize hZ4:Hp.set τ b3 _=Vo;replace a4:=dO a4 hZ4;refine aL (aog a4 ata.sq aa) ?_;rintro v gX ⟨v',Yq,hv,a5,q3,am0⟩
 cases hv
 obtain⟨base,cap,rfl,_⟩:=q3.read;have hl:(n.aN.map λe=>A.queue e.1).length=n.aN.length:=al;refine aG hl ?_;refine dh (λm ρ ds ae=>ds=[]/\ρ 2=pV b2/\ρ 3=pV b3/\ρ 16=.slice base n.aN.length cap/\ρ 17=iV n.aN.length/\∃(j:Nat) (v:Value) (Xq:Ext),j+m=n.aN.length/\ρ 18=iV j/\SX QS.vals 4 39 (n.og.take j) v Xq/\aq A H n (Xq++(Yq++((b3,.cells [v,.slice Ag (n.aF.map (·.1)).length Ah].toArray 36 (0,0))::(Yc++((b2,.cells [.slice none 0 0,.slice none 0 0].toArray 36 (0,0))::X))))) ae) n.aN.length ?_ ?_
 ·refine⟨rfl,?_,?_,?_,?_,0,.slice none 0 0,[],al,?_,.none rfl,a5⟩<;>exact aK hl
 rintro m ρ ds cZ Y ⟨rfl,h2,h3,wR,Jd,j,v,Xq,xi,vl,wX,aj⟩ hY;have f3:cZ.f b3=some (.cells #[v,.slice Ag (n.aF.map (·.1)).length Ah] 36 (0,0)):=(aq.mC (aq.mC aj)).eC;have f2:cZ.f b2=some (.cells #[.slice none 0 0,.slice none 0 0] 36 (0,0)):=(aq.mC (aq.mC (aq.mC aj)).oD).eC
 cases m with
 |succ m=>
  have hj:j<n.aN.length:=aa;have c0:(j:Int)<n.aN.length:=aa;have sj:=am0 (aq.mC aj);obtain⟨bb2,yv,e2,r2⟩:=sj.read;simp only[Value.slice.injEq]at e2;obtain⟨rfl,_,_⟩:=e2;obtain⟨ba,L,rfl,gO,hL⟩:=r2 j (aZ hj);simp only[List.getElem_map,dU]at hL;have w1:=fF j;obtain⟨nm,jo⟩:∃nm,nm=n.aN[j].1:=⟨_,rfl⟩;rw[<-jo]at hL;have hq:n.q? nm=some n.aN[j].2:=by rw[jo];exact oa ata.nq (List.getElem_mem hj)
  generalize qG:n.aN[j].2=q at*;have fq:=aj.sY hq;simp only[go_sem,seval,wR,Jd,vl,c0,decide_true];refine⟨aa,?_⟩;refine bt gO hL ?_;refine Al [0,1,2,3,4,5,8,9,10,11,6,12,7,13,14,15,16,17,18] ?_;obtain⟨rb,rc,gT⟩:=(aj.eP hq).shape
  obtain⟨sb,sc,kO⟩:∃b c,H.cv nm=.slice b q.cons.length c:=by
   rcases(aj.hU hq).form with⟨h1,h2⟩|⟨b,pad,h1,_⟩
   ·have:q.cons=[]:=aZ h1;exact⟨_,_,by rw[h2,this];rfl⟩
   ·exact⟨_,_,by rw[h1];simp only[List.length_map];rfl⟩
  have I2:=aj.queue hq;rw[gT,kO]at fq I2;refine bO h3 f3 fq ?_;refine aR (L6 I2) ?_;refine⟨iP f3 fq,?_⟩;refine ag ?_;refine aR (OQ I2) ?_;refine⟨iP f3 fq,?_⟩;refine ag ?_;refine⟨dG f3,?_⟩;refine ag ?_;refineλbn cz=>?_;have fr:=λo=>aj.fresh cz o;have PG:=λo=>(aq.mC (aq.mC (fr o))).eC;simp only at PG;have frq:=λo=>(fr o).sY hq;rw[gT,kO]at frq;refine⟨dG PG,?_⟩;refine ag ?_;generalize yE:Hp.set cZ bn _=rO;have a6:=dO (fr _) yE;have JL:rO.f bn=some (.cells (QS.vals ⟨nm,q.ready.length,q.held,q.cons.length⟩).toArray 39 (0,0)):=by rw[<-yE];exact Hp.bD _ _
  refine Wb aaK (f:=QS.vals) ah (λ_=>rfl) rfl ai ai (λ_=>by simp[QS.vals,de]) wX a6 ?_ ?_ JL (by simp;omega) ?_
  ·exact au
  ·exact au
  intro v7 VK pc Qg a7;have f37:pc.f b3=some (.cells #[v,.slice Ag (n.aF.map (·.1)).length Ah] 36 (0,0)):=(aq.mC (aq.mC a7)).eC;have I3:=a7.sY hq;rw[gT,kO]at I3;refine⟨iP f37 I3,?_⟩;refine bt h3 f37 ?_;rw[<-List.append_assoc]at a7;have a8:=a7.Uk (.cells [v7,.slice Ag (n.aF.map (·.1)).length Ah].toArray 36 (0,0))
  have vG:∃b c,v7=.slice b (n.og.take j++[(⟨nm,q.ready.length,q.held,q.cons.length⟩:QS)]).length c:=by cases Qg with
   |none h=>simp at h
   |«at»b c pad _ _=>exact⟨_,_,rfl⟩
  obtain⟨T9,Ua,vG⟩:=vG;rw[vG]at a8;refine aG vG ?_;refine⟨iP f37 I3,?_⟩;refine bt vl w1 ?_
  have hsj:n.og.take (j+1)=n.og.take j++[⟨nm,q.ready.length,q.held,q.cons.length⟩]:=by
   have tI:j<n.og.length:=by simpa[N.og]using hj
   rw[List.take_succ_eq_append_getElem tI];congr 2;simp only[N.og,List.getElem_map,jo,qG]
  refine hY m _ _ _ _ aa ⟨rfl,?_,?_,?_,?_,j+1,v7,VK,aa,?_,by rw[hsj];exact Qg,?_⟩ ao
  ·exact aK h2
  ·exact aK h3
  ·exact aK wR
  ·exact aK Jd
  ·exact au
  ·rw[vG,<-List.append_assoc];exact dO a8 rfl
 |zero=>
  have c0:¬(j:Int)<n.aN.length:=aa;obtain rfl:j=n.aN.length:=aa;rw[List.take_of_length_le (by simp[N.og])]at wX
  have vG:∃b c,v=.slice b n.og.length c:=by cases wX with
   |none h=>exact⟨_,_,by rw[h];rfl⟩
   |«at»b c pad _ _=>exact⟨_,_,rfl⟩
  obtain⟨T9,Ua,vG⟩:=vG;rw[vG]at f3 wX;simp only[go_sem,seval,h2,h3,Jd,vl,c0,decide_false,f3,f2];have k0:=aq.Fq (Z:=Xq) (Y:=Yq) aj;have k1:aq A H n (Xq++(Yc++(b2,.cells [.slice none 0 0,.slice none 0 0].toArray 36 (0,0))::X)) cZ:=aq.Fq (Z:=Xq) (Y:=[(b3,_)]) k0;rw[<-List.append_assoc]at k1;have k2:=(k1.Uk (.cells [.slice T9 n.og.length Ua,.slice Ag (n.aF.map (·.1)).length Ah].toArray 36 (0,0)));have k3:aq A H n ((Xq++Yc)++X) _:=aq.Fq (Z:=Xq++Yc) (Y:=[(b2,_)]) k2;rw[List.append_assoc]at k3;refine an (ni (b:=b2) ?_ aho (aib aY)) ao ⟨_,_,Xq,Yc,rfl,wX,⟨A,rfl,H,dO k3 rfl⟩,amZ (aq.mC (dO k3 rfl))⟩;exact aK h2
end
def N.kV(n:N)(id:Int)(s:List UInt8):List UInt8:=match n.ar id with
 |none=>[63]
 |some _=>(bu (n.feed id s).outs id).getD []
def N.then(n:N)(id:Int)(s:List UInt8):N:=match n.ar id with
 |none=>n
 |some _=>(n.feed id s).clean
def Inv.then {n:N}{T:Int}{id:Int}{s:List UInt8}(I:Inv T n):Inv (T+402*(s.length+4107:Nat)) (n.then id s):=by
 unfold N.then;split
 ·exact I.mono aa
 ·exact I.feed
variable {l:List (Int×List UInt8)}
def alw{pad:List Value}{i:Nat}(h:i<l.length):(fY l++pad)[i*2]? =some (iV l[i].1)/\(fY l++pad)[i*2+1]? =some (sV l[i].2):=by
 have hl:=G4 l;rw[List.getElem?_append_left aa,List.getElem?_append_left aa];clear hl
 induction l generalizing i with
 |nil=>simp at h
 |cons e l ih=>
  have e1:fY (e::l)=iV e.1::sV e.2::fY l:=by simp[fY]
  rw[e1]
  cases i with
  |zero=>exact⟨rfl,rfl⟩
  |succ i=>
   have h':i<l.length:=aZ h;have:=ih h';have a1:(i+1)*2=i*2+1+1:=aa;have a2:(i+1)*2+1=i*2+1+1+1:=aa;rw[a2,a1];simpa using this
variable {v:Value}{Xp:Ext}
def PX.shape(h:PX l v Xp):∃b c,v=.slice b l.length c:=by
 cases h with
 |none h=>exact⟨_,_,by rw[h];rfl⟩
 |«at»a c pad _ _=>exact⟨_,_,rfl⟩
variable {X:Ext}{n:N}{σ:Hp}
def PX.read{A:Lay}{H:Hid}(h:PX l v Xp)(a:aq A H n (Xp++X) σ):∃b c,v=.slice b l.length c/\∀i (hi:i<l.length),∃(a:Nat) (L:List Value),b=some ⟨a,0,Option.none⟩/\σ.f a=some (.cells L.toArray 55 (0,0))/\L[i*2]? =some (iV l[i].1)/\L[i*2+1]? =some (sV l[i].2):=by
 cases h with
 |none h=>exact⟨_,_,by rw[h];rfl,λi hi=>by rw[h]at hi;simp at hi⟩
 |«at»b c pad _ _=>exact⟨_,_,rfl,λi hi=>⟨b,_,rfl,aq.eC (X:=X) a,alw hi⟩⟩
def Gw.drop{g:Nat}{Y:Ext}(h:Gw g n (Y++X) σ):Gw g n X σ:=by obtain⟨A,e,H,a⟩:=h;exact⟨A,e,H,a.mC⟩
variable {O:Type}{l:List (Int×O)}
def VW{j:Nat}(hj:j<l.length)(h:∀e∈l.take j,¬e.1=l[j].1):bu l l[j].1=some l[j].2:=by
 have e:l=l.take j++(l[j].1,l[j].2)::l.drop (j+1):=by conv=>lhs;rw[<-List.take_append_drop j l,List.drop_eq_getElem_cons hj]
 generalize hk:l[j].1=k at*;generalize hv:l[j].2=v at*;rw[e];exact Nz h
def VX{k:Int}(h:∀e∈l,¬e.1=k):bu l k=none:=by
 unfold bu;have:(l.find? λe=>decide (e.1=k))=none:=List.find?_eq_none.2 λe he=>by simpa using h e he
 rw[this];rfl
section
variable {H:Hid}{n:N}{X:Ext}{σ:Hp}{c:CN}{g:Nat}{T:Int}{ρ:av}{ds:List Deferred}{W:World}{φ:Hp}
variable {A:Lay}{id:Int}
theorem ak1 {s:List UInt8}(I:Inv T n):(n.feed id s).outs.length<=4:=by
 have h1:(n.feed id s).outs.length<=(n.feed id s).aF.length:=by unfold N.outs;refine Nat.le_trans (List.length_filter_le _ _) ?_;simp
 have h2:(n.feed id s).aF.length<=4:=by
  unfold N.feed;split
  ·exact I.ok.lQ.lc
  ·cases hc:n.ar id with
   |none=>
    have e:n.vk id s=n:=by
     have e1:n.recv id s=n:=by unfold N.recv N.bC N.dI;have:dz n.aF id (λc=>{c with r:={c.r with recv:=n.clock,rest:=c.r.rest++s}})=n.aF:=Aa λe he hx=>absurd hx (iK hc e he);rw[this]
     rw[Fz,e1];exact Pw (by unfold N.ph;rw[hc];rfl)
    rw[e];exact I.ok.lQ.lc
   |some c=>exact(I.ok.vk hc).ok.lQ.lc
 omega
theorem Hg {s:List UInt8}(h:Gw g n X σ)(I:Inv T n)(hs:s.length<=900000)(hT:T+402*(s.length+4107:Nat)+2000<=1000000000000):
 ay (uK W φ) 15 #[pV g,iV id,sV s] σ λe τ=>e=.returned (sV (n.kV id s))/\Gw g (n.then id s) X τ:=by
 have yA:=Pv (W:=W) (φ:=φ) (id:=id) h I hs hT;refine aW func15 ntmps15 results15 λQ aC an aA=>?_;refine ag ?_
 cases hc:n.ar id with
 |none=>
  rw[hc]at yA;have e1:n.kV id s=[63]:=by unfold N.kV;rw[hc]
  have e2:n.then id s=n:=by unfold N.then;rw[hc]
  rw[e1,e2]at an;refine aR yA ?_;refine ag ?_;exact an aI ao ⟨by simp[up],h⟩
 |some c=>
  rw[hc]at yA;have e1:n.kV id s=(bu (n.feed id s).outs id).getD []:=by unfold N.kV;rw[hc]
  have e2:n.then id s=(n.feed id s).clean:=by unfold N.then;rw[hc]
  rw[e1,e2]at an;have hol:=ak1 (id:=id) (s:=s) I;refine aL yA ?_;rintro v τ ⟨v',Xp,hv,hp,A,hA,H,a⟩
  cases hv
  obtain⟨b,cap,rfl,Kr⟩:=hp.read a;generalize ar0:(n.feed id s).outs=l at*;refine ag ?_;refine dh (λm ρ ds ae=>ds=[]/\ρ 1=iV id/\ρ 7=.slice b l.length cap/\ae=τ/\∃j:Nat,m=l.length-j/\j<=l.length/\ρ 9=iV j/\∀e∈l.take j,¬e.1=id) l.length ?_ ?_
  ·refine⟨rfl,?_,?_,rfl,0,rfl,Nat.zero_le _,?_,al⟩<;>exact au
  rintro m ρ ds cZ Y ⟨rfl,h1,h7,rfl,j,rfl,hjl,h9,dY⟩ hY;by_cases hj:j<l.length
  ·have c0:(j:Int)<l.length:=aa;obtain⟨ab,L,rfl,di,FE,qp⟩:=Kr j hj;have cj:(0:Int)<=j/\(j:Int)<l.length:=aa;have w1:=fF j;by_cases fA:l[j].1=id
   ·have arL:(l[j].1:Int)=id:=fA;simp only[go_sem,seval,h1,h7,h9,c0,cj,di,FE,qp,fA];have:=VW hj (by rw[fA];exact dY);rw[fA]at this;rw[this]at an;exact an aI ao ⟨by simp[up],A,hA,H,a.mC⟩
   ·simp only[go_sem,seval,h1,h7,h9,c0,cj,di,FE,fA,w1];refine hY (l.length-(j+1)) _ _ _ _ aa ⟨rfl,?_,?_,rfl,j+1,rfl,aa,?_,?_⟩ ao
    ·exact aK h1
    ·exact aK h7
    ·exact au
    ·intro e he;rw[List.take_succ_eq_append_getElem hj]at he;rcases List.mem_append.1 he with he|he
     ·exact dY e he
     ·simp only[List.mem_singleton]at he;rw[he];exact fA
  ·have c0:¬(j:Int)<l.length:=aa;refine bO h7 h9 c0 ?_;have:bu l id=none:=VX (by rw[List.take_of_length_le aa]at dY;exact dY);rw[this]at an;exact an aI ao ⟨by simp[up],A,hA,H,a.mC⟩
end
end Go.Qw
