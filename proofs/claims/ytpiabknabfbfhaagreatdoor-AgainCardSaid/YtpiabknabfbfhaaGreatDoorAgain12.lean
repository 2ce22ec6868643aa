/- 12 -/
import Derived.Test.YtpiabknabfbfhaaGreatDoorAgain11
set_option linter.all false
set_option maxRecDepth 100000
set_option maxHeartbeats 8000000
namespace Go.Qw
open Go Go.Conc Go.Proofs Go.Proofs.Tryz
def mK(k:Nat):aM:=⟨(k:Int)+1,[113],od k,false⟩
def hK:Nat->Nat->HR
 |0,g=>⟨false,0,g,0,[],[],0⟩
 |p+1,g=>⟨false,0,g,1,[113],od p,(od p).length⟩
def kJ(s c:Nat):List (Nat×(List UInt8×aM)):=(List.range' s c).map λk=>(k+1,([113],mK k))
def iN(g c:Nat):List aM:=(List.range' g c).map mK
def As(z:Zn)(p g s:Nat):N:=W z [] [] (hK p g) (kJ s (g-s)) (iN g (p-g)) ((g-s:Nat):Int) p
variable {i:Nat}
def Jx:2<=(od i).length/\(od i).length<=146:=by have:qC.length=36:=rfl;unfold od;simp only[List.length_append,List.length_cons,List.length_nil,List.length_flatten,List.map_replicate,List.sum_replicate_nat,this];omega
def ZJ:od i≠[]:=λe=>by have:=(Jx (i:=i)).1;rw[e]at this;simp at this
variable {p g:Nat}
def Rz:(hK p g).closing=false:=by cases p<;>rfl
def RA:(hK p g).want<=1:=by cases p<;>simp[hK]
variable {c:Nat}
def aor:iN g (c+1)=iN g c++[mK (g+c)]:=by unfold iN;rw[List.range'_concat];simp
def V9{s:Nat}:kJ s (c+1)=kJ s c++[(s+c+1,([113],mK (s+c)))]:=by unfold kJ;rw[List.range'_concat];simp
abbrev stK:=As .one
variable {z:Zn}
def WY{s:Nat}(h1:s<=g)(h2:g<=p)(h3:p-s<50):(As z p g s).then z.i (mh 1 [113] (od p))=As z (p+1) g s/\(As z p g s).rA z.i (mh 1 [113] (od p))=[]:=by
 have hl:=Jx (i:=p);have h:=Xj (z:=z) (hr:=hK p g) (un:=kJ s (g-s)) (R:=iN g (p-g)) (h:=((g-s:Nat):Int)) (k:=p) (b:=od p) ZJ aa Rz RA (by simp[iN];omega);refine⟨h.1.trans ?_,h.2⟩;have e:p+1-g=(p-g)+1:=aa;have e2:g+(p-g)=p:=aa;unfold As;rw[e,aor,e2]
 cases p<;>rfl
def VN(z:Zn)(r:CR)(ch:List (Nat×HN))(R:List aM)(h k:Int):N:=⟨uh,0,z.last,k,0,z.aF ⟨r,ch⟩,[([113],⟨R,h,0,[]⟩)],[]⟩
def lS(R:List aM)(un:List (Nat×(List UInt8×aM))):List aM:=un.foldl (λR e=>im R e.2.2) R
variable {r:CR}{ch:List (Nat×HN)}{R:List aM}{h k:Int}
def FV:(VN z r ch R h k).serve=VN z r ch R h k:=by cases R<;>rfl
def Oz:(VN z r ch R h k).ar z.i=some ⟨r,ch⟩:=by cases z<;>rfl
def Xa:(VN z r ch R h k).ph z.i=r.ph:=by cases z<;>rfl
variable {hr:HR}{un:List (Nat×(List UInt8×aM))}{t:Nat}
def Xb{m:aM}(hn:∀e∈un,e.1≠t):(VN z r [(1,⟨hr,(t,([113],m))::un,[]⟩)] R h k).settle z.i 1 t true=VN z r [(1,⟨hr,un,[]⟩)] (im R m) (h-1) k:=by
 have hg:bq ((t,([113],m))::un) t=some ([113],m):=by simp[bq]
 unfold N.settle
 have hh:((VN z r [(1,⟨hr,(t,([113],m))::un,[]⟩)] R h k).h? z.i 1).bind (λh=>bq h.un t)=some ([113],m):=by
  have:(VN z r [(1,⟨hr,(t,([113],m))::un,[]⟩)] R h k).h? z.i 1=some ⟨hr,(t,([113],m))::un,[]⟩:=by cases z<;>rfl
  rw[this];exact hg
 have hd:cC ((t,([113],m))::un) t=un:=by unfold cC;rw[List.filter_cons,if_neg al];exact List.filter_eq_self.2 λe he=>by simpa using hn e he
 rw[hh];have:VN z r [(1,⟨hr,cC ((t,([113],m))::un) t,[]⟩)] (im R m) (h-1) k=_:=congrArg (λl=>VN z r [(1,⟨hr,l,[]⟩)] (im R m) (h-1) k) hd;rw[<-this]
 cases z<;>rfl
def Ox:∀{un:List (Nat×(List UInt8×aM))} {R:List aM} {h:Int},(∀e∈un,e.2.1=[113])->(un.map (·.1)).Nodup->
 un.foldl (λn e=>n.settle z.i 1 e.1 true) (VN z r [(1,⟨hr,un,[]⟩)] R h k)=VN z r [(1,⟨hr,[],[]⟩)] (lS R un) (h-un.length) k
 |[],R,h,_,_=>by simp[lS]
 |(t,(nm,m))::un,R,h,hq,nd=>by
  obtain rfl:nm=[113]:=hq _ (List.mem_cons_self ..);rw[List.map_cons,List.nodup_cons]at nd;rw[List.foldl_cons,Xb λe he hx=>nd.1 (List.mem_map.2 ⟨e,he,hx⟩),Ox (λe he=>hq e (List.mem_cons_of_mem _ he)) nd.2];have e:h-1-(un.length:Int)=h-(((t,([113],m))::un).length:Nat):=by simp;omega
  rw[e];rfl
def OB(hq:∀e∈un,e.2.1=[113])(nd:(un.map (·.1)).Nodup):(VN z r [(1,⟨hr,un,[]⟩)] R h k).release z.i 1=VN z r [(1,⟨hr,[],[]⟩)] (lS R un) (h-un.length) k:=by
 unfold N.release;have:(VN z r [(1,⟨hr,un,[]⟩)] R h k).h? z.i 1=some ⟨hr,un,[]⟩:=by cases z<;>rfl
 rw[this,<-Ox hq nd];have:(VN z r [(1,⟨hr,un,[]⟩)] R h k).bB z.i 1 (λh=>{h with co:=[]})=VN z r [(1,⟨hr,un,[]⟩)] R h k:=by cases z<;>rfl
 simp only[List.foldl_nil,this]
def Ja(hq:∀e∈un,e.2.1=[113])(nd:(un.map (·.1)).Nodup):(VN z r [(1,⟨hr,un,[]⟩)] R h k).leave z.i=VN z r [] (lS R un) (h-un.length) k:=by
 unfold N.leave;rw[Oz];simp only[List.foldl_cons,List.foldl_nil,OB hq nd]
 cases z<;>rfl
def W9:(VN z r [] R h k).leave z.i=VN z r [] R h k:=by cases z<;>rfl
variable {c2:List (Nat×HN)}{r':CR}{R':List aM}{h':Int}
def OC(h5:r.ph=5)(hl:(VN (.fst c2) r ch R h k).leave 1=VN (.fst c2) r' [] R' h' k):(VN (.fst c2) r ch R h k).gW=VN (.fst c2) r' [] R' h' k:=by
 have s:(VN (.fst c2) r ch R h k).gW=([(1:Int),2].foldl (λn id=>if n.ph id=5 then n.leave id else n) (VN (.fst c2) r ch R h k)).serve:=rfl;have p1:(VN (.fst c2) r ch R h k).ph 1=5:=h5;have p2:¬(VN (.fst c2) r' [] R' h' k).ph 2=5:=by show¬(3:Int)=5;decide
 rw[s];simp only[List.foldl_cons,List.foldl_nil,p1,if_true,hl,p2,if_false,FV]
def Oy(h5:r.ph=5):(VN (.fst c2) r [] R h k).clean=VN .alone ⟨3,[],true,4,64,0,0,0,[]⟩ c2 R h k:=by
 unfold N.clean
 have:(VN (.fst c2) r [] R h k).aF.filter (λe=>decide (e.2.r.ph≠5))=[(2,sY [] [] c2)]:=by show List.filter _ [((1:Int),(⟨r,[]⟩:CN)),(2,sY [] [] c2)]=_;rw[List.filter_cons,if_neg (by simp[h5])];rfl
 rw[this];rfl
def OA(h5:r.ph=5):(VN (.fst c2) r [] R h k).gW.clean=VN .alone ⟨3,[],true,4,64,0,0,0,[]⟩ c2 R h k:=by rw[OC h5 (W9 (z:=.fst c2)),Oy h5]
def W8(hq:∀e∈un,e.2.1=[113])(nd:(un.map (·.1)).Nodup):(VN (.fst c2) r [(1,⟨hr,un,[]⟩)] R h k|>.drop 1).clean=VN .alone ⟨3,[],true,4,64,0,0,0,[]⟩ c2 (lS R un) (h-un.length) k:=by have e0:(VN (.fst c2) r [(1,⟨hr,un,[]⟩)] R h k).bA 1 (λr=>{r with ph:=5})=VN (.fst c2) {r with ph:=5} [(1,⟨hr,un,[]⟩)] R h k:=rfl;unfold N.drop;rw[e0,OC (r:={r with ph:=5}) rfl (Ja (z:=.fst c2) hq nd),Oy rfl]
def oT(ch cl:Nat)(me:Nat):List UInt8:=fy ch cl me (aw 2 0++aw 1 0++aw 4 0)
def ac2:sD (aw 2 0++aw 1 0++aw 4 0)=some []:=jb
variable {n:N}{s:List UInt8}
def akP{id:Int}{no:Nat}{g:HN}:n.method id no g s 20 40=n.close id no s 20 40:=by simp[N.method]
variable {f:Nat}
def Jb{u:Un}{s':List UInt8}{JE:List (Nat×HN)}{k':Int}(h5:r.ph≠5)(hg:r.iy=true)(hn:dz true r.rest r.frame=(u,true,s'))(hi:u.idle=false)(hu:(VN z {r with rest:=s'} ch R h k).unit z.i u=VN z r' JE R' h' k'):(VN z r ch R h k).fJ (f+1) z.i=(VN z r' JE R' h' k').fJ f z.i:=by
 have e:(VN z r ch R h k).cut z.i=((dz r.iy r.rest r.frame).1,(VN z r ch R h k).bA z.i λx=>{x with iy:=(dz r.iy r.rest r.frame).2.1,rest:=(dz r.iy r.rest r.frame).2.2}):=by cases z<;>rfl
 have e2:(VN z r ch R h k).bA z.i (λx=>{x with iy:=true,rest:=s'})=VN z {r with rest:=s'} ch R h k:=by
  rw[show({r with rest:=s'}:CR)={r with iy:=true,rest:=s'}by rw[<-hg]]
  cases z<;>rfl
 rw[N.fJ,Xa,if_neg h5,e,hg,hn];simp only[hi,e2,hu,FV];rfl
def QO{id:Int}(h:n.ph id=5):n.fJ f id=n:=by
 cases f with
 |zero=>rfl
 |succ f=>unfold N.fJ;exact if_pos h
def FU(hs:s≠[]):(VN z r ch R h k).feed z.i s=((VN z {r with recv:=0,rest:=r.rest++s} ch R h k).fJ ((r.rest++s).length+2) z.i).gW:=by
 unfold N.feed;rw[if_neg hs];have e1:(VN z r ch R h k).s7 z.i s=(VN z {r with recv:=0,rest:=r.rest++s} ch R h k).fJ ((r.rest++s).length+2) z.i:=by cases z<;>rfl
 rw[e1]
def FW{n':N}(hF:(VN z r ch R h k).feed z.i s=n'):(VN z r ch R h k).then z.i s=n'.clean:=by unfold N.then;simp only[Oz,hF]
abbrev r0(rest out:List UInt8):CR:=⟨3,rest,true,4,64,0,0,0,out⟩
section
variable {z:Zn}{r:CR}{ch:List (Nat×HN)}{hr:HR}{R:List aM}{h:Int}{k:Int}{c2:List (Nat×HN)}{f:Nat}{un:List (Nat×(List UInt8×aM))}
variable (hq:∀e∈un,e.2.1=[113])(nd:(un.map (·.1)).Nodup)
include hq nd
def end_1 (aH:hr.closing=false)(hw:hr.want<=1):(W (.fst c2) [] [] hr un R h k).then 1 (oT 1 20 40)=VN (.snd []) (r0 [] []) c2 (lS R un) (h-un.length) k:=by
 have hM:(VN (.fst c2) (r0 [] []) [(1,⟨hr,un,[]⟩)] R h k).method 1 1 ⟨hr,un,[]⟩ (aw 2 0++aw 1 0++aw 4 0) 20 40=.ok (VN (.fst c2) (r0 [] (bK 1 20 41 [])) [] (lS R un) (h-un.length) k) .nil:=by rw[akP];unfold N.close;rw[ac2];have:(VN (.fst c2) (r0 [] []) [(1,⟨hr,un,[]⟩)] R h k).send 1 (bK 1 20 41 [])=VN (.fst c2) (r0 [] (bK 1 20 41 [])) [(1,⟨hr,un,[]⟩)] R h k:=rfl;simp only[this];unfold N.oY;rw[show N.release _ 1 1=_ from OB (z:=.fst c2) hq nd];rfl
 have hu:=Mr (n:=VN (.fst c2) (r0 [] []) [(1,⟨hr,un,[]⟩)] R h k) (hn:=⟨hr,un,[]⟩) (c:=⟨r0 [] [],[(1,⟨hr,un,[]⟩)]⟩) rfl rfl (by show(1:Int)<=4;decide) rfl aH hw ai ai hM;have hN:=BU (rest:=[]) (kd:=1) (p:=aw 2 20++aw 2 40++(aw 2 0++aw 1 0++aw 4 0)) (.inl rfl) ai;rw[List.append_nil]at hN;have e1:=Jb (z:=.fst c2) (r':=r0 [] (bK 1 20 41 [])) (JE:=[]) (R':=lS R un) (h':=h-un.length) (k':=k) (r:=r0 (oT 1 20 40) []) (ch:=[(1,⟨hr,un,[]⟩)]) (R:=R) (h:=h) (k:=k) (f:=(oT 1 20 40).length+1) ai rfl hN (BE (.inl rfl)) hu
 have e2:(VN (.fst c2) (r0 [] (bK 1 20 41 [])) [] (lS R un) (h-un.length) k).fJ ((oT 1 20 40).length+1) 1=VN (.fst c2) (r0 [] (bK 1 20 41 [])) [] (lS R un) (h-un.length) k:=by unfold N.fJ;rfl
 have e3:(VN (.fst c2) (r0 [] (bK 1 20 41 [])) [] (lS R un) (h-un.length) k).gW=(VN (.fst c2) (r0 [] (bK 1 20 41 [])) [] (lS R un) (h-un.length) k).serve:=rfl;rw[FV]at e3;refine(FW (z:=.fst c2) (r:=r0 [] []) ((FU ai).trans ((congrArg N.gW (e1.trans e2)).trans e3))).trans rfl
def acE:(W (.fst c2) [] [] hr un R h k).then 1 (oT 0 10 50)=VN .alone (r0 [] []) c2 (lS R un) (h-un.length) k:=by
 have hu:(VN (.fst c2) (r0 [] []) [(1,⟨hr,un,[]⟩)] R h k).unit 1 ⟨1,(0:Nat),aw 2 10++aw 2 50++(aw 2 0++aw 1 0++aw 4 0),false,false⟩=VN (.fst c2) {r0 [] (bK 0 10 51 [])with ph:=5} [] (lS R un) (h-un.length) k:=by have:(VN (.fst c2) (r0 [] []) [(1,⟨hr,un,[]⟩)] R h k).unit 1 ⟨1,(0:Nat),aw 2 10++aw 2 50++(aw 2 0++aw 1 0++aw 4 0),false,false⟩=(((VN (.fst c2) (r0 [] []) [(1,⟨hr,un,[]⟩)] R h k).leave 1).send 1 (bK 0 10 51 [])).bA 1 (λr=>{r with ph:=5}):=rfl;rw[this,show N.leave _ 1=_ from Ja (z:=.fst c2) hq nd];rfl
 have hN:=Um (k:=1) (ch:=0) (rest:=[]) (size:=64) (p:=aw 2 10++aw 2 50++(aw 2 0++aw 1 0++aw 4 0)) ai ai ai ai;rw[List.append_nil]at hN;have e1:=Jb (z:=.fst c2) (r:=r0 (oT 0 10 50) []) (ch:=[(1,⟨hr,un,[]⟩)]) (R:=R) (h:=h) (k:=k) (f:=(oT 0 10 50).length+1) ai rfl hN rfl hu;exact(FW (z:=.fst c2) (r:=r0 [] []) ((FU ai).trans (congrArg N.gW (e1.trans (QO rfl))))).trans (OA rfl)
def acD:((W (.fst c2) [] [] hr un R h k).then 1 [120]).then 1 [120,120,120,120,120,120,120]=VN .alone (r0 [] []) c2 (lS R un) (h-un.length) k:=by
 have e0:(W (.fst c2) [] [] hr un R h k).then 1 [120]=VN (.fst c2) (r0 [120] []) [(1,⟨hr,un,[]⟩)] R h k:=by have e1:=OG (z:=.fst c2) (hr:=hr) (un:=un) (R:=R) (h:=h) (k:=k) (rest:=[120]) (out:=[]) (u:=⟨0,0,[],false,false⟩) (f:=2) rfl rfl;have e3:(VN (.fst c2) (r0 [120] []) [(1,⟨hr,un,[]⟩)] R h k).gW=(VN (.fst c2) (r0 [120] []) [(1,⟨hr,un,[]⟩)] R h k).serve:=rfl;rw[FV]at e3;exact(FW (z:=.fst c2) (r:=r0 [] []) ((FU ai).trans ((congrArg N.gW e1).trans e3))).trans rfl
 rw[e0]
 have hu:(VN (.fst c2) (r0 (List.replicate 8 120) []) [(1,⟨hr,un,[]⟩)] R h k).unit 1 ⟨120,30840,[],false,true⟩=VN (.fst c2) {r0 (List.replicate 8 120) (bK 0 10 50 (oZ 501 0 0))with ph:=5} [] (lS R un) (h-un.length) k:=by have:(VN (.fst c2) (r0 (List.replicate 8 120) []) [(1,⟨hr,un,[]⟩)] R h k).unit 1 ⟨120,30840,[],false,true⟩=((((VN (.fst c2) (r0 (List.replicate 8 120) []) [(1,⟨hr,un,[]⟩)] R h k).leave 1).bA 1 λr=>{r with ph:=4}).send 1 (bK 0 10 50 (oZ 501 0 0))).bA 1 (λr=>{r with ph:=5}):=rfl;rw[this,show N.leave _ 1=_ from Ja (z:=.fst c2) hq nd];rfl
 have e1:=Jb (z:=.fst c2) (r:=r0 (List.replicate 8 120) []) (ch:=[(1,⟨hr,un,[]⟩)]) (R:=R) (h:=h) (k:=k) (f:=9) ai rfl (s':=List.replicate 8 120) (u:=⟨120,30840,[],false,true⟩) rfl rfl hu;exact(FW (z:=.fst c2) (r:=r0 [120] []) ((FU ai).trans (congrArg N.gW (e1.trans (QO rfl))))).trans (OA rfl)
end
def Hd:HN:=⟨gu,[],[]⟩
def sH:N:=VN (.snd [(1,Hd)]) (r0 [] []) [(1,Hd)] [] 0 0
def ajf:(mR.connect.feed 2 (mG 0)).outs=[(2,EW)]:=jb
def Tu:mR.connect.then 2 (mG 0)=sH:=ah
def Be(t:Nat):HR:=⟨false,0,t,0,[],[],0⟩
def Ac(i:Nat):N:=As (.snd [(1,Hd)]) i 0 0
def pU(m t:Nat):N:=W (.fst [(1,⟨hK m 0,[],[]⟩)]) [] [] (Be t) (kJ 0 t) (iN t (m-t)) t m
def N8:sH=Ac 0:=rfl
def WG(hi:i<50):(Ac i).then 2 (mh 1 [113] (od i))=Ac (i+1):=(WY (z:=.snd [(1,Hd)]) (p:=i) (g:=0) (s:=0) (Nat.le_refl _) (Nat.zero_le _) aa).1
variable {m:Nat}
def WI:Ac m=pU m 0:=by unfold Ac pU As;rfl
def WE(ht:t<m):(pU m t).then 1 qL=pU m (t+1):=by
 have e:m-t=(m-(t+1))+1:=aa;have e1:iN t (m-t)=mK t::iN (t+1) (m-(t+1)):=by rw[e];rfl
 have h:=OF (z:=.fst [(1,⟨hK m 0,[],[]⟩)]) (hr:=Be t) (un:=kJ 0 t) (m:=mK t) (ms:=iN (t+1) (m-(t+1))) (h:=t) (k:=m) (t:=t) rfl (by show(0:Int)<=1;decide) rfl rfl;unfold pU;rw[e1];refine h.1.trans ?_;have e3:kJ 0 (t+1)=kJ 0 t++[(t+1,([113],mK t))]:=by rw[V9];simp
 rw[e3];rfl
def WH:(pU m t).pF=[⟨[113],((m-t:Nat):Int),(t:Int),0⟩]:=by show [(⟨[113],((iN t (m-t)).length:Int),_,_⟩:QS)]=_;simp[iN]
def CC(k:Nat):aM:={mK k with again:=true}
def mo(m t:Nat):List aM:=(List.range t).map CC++iN t (m-t)
def YV(ht:t<=m):lS (iN t (m-t)) (kJ 0 t)=mo m t:=by
 have:∀j,j<=t->lS (iN t (m-t)) (kJ 0 j)=(List.range j).map CC++iN t (m-t):=by
  intro j
  induction j with
  |zero=>intro _;rfl
  |succ j ih=>
   intro hj;have e:kJ 0 (j+1)=kJ 0 j++[(j+1,([113],mK j))]:=by rw[V9];simp
   unfold lS at ih|-;rw[e,List.foldl_append,ih aa];simp only[List.foldl_cons,List.foldl_nil];unfold im
   have lt:∀x∈(List.range j).map CC,decide (x.seq<(mK j).seq)=true:=λx hx=>by obtain⟨i,hi,rfl⟩:=List.mem_map.1 hx;have:=List.mem_range.1 hi;have:(i:Int)+1<(j:Int)+1:=aa;exact decide_eq_true this
   have ge:∀x∈iN t (m-t),decide (x.seq<(mK j).seq)=false:=λx hx=>by obtain⟨i,hi,rfl⟩:=List.mem_map.1 hx;obtain⟨q,hq,rfl⟩:=List.mem_range'.1 hi;have:¬((t+1*q:Nat):Int)+1<(j:Int)+1:=aa;exact decide_eq_false this
   have tw:(iN t (m-t)).takeWhile (λx=>decide (x.seq<(mK j).seq))=[]:=by
    cases hl:iN t (m-t)with
    |nil=>rfl
    |cons x l=>rw[List.takeWhile_cons,ge x (by rw[hl];exact List.mem_cons_self ..)];rfl
   have dw:(iN t (m-t)).dropWhile (λx=>decide (x.seq<(mK j).seq))=iN t (m-t):=by
    cases hl:iN t (m-t)with
    |nil=>rfl
    |cons x l=>rw[List.dropWhile_cons,ge x (by rw[hl];exact List.mem_cons_self ..)];rfl
   rw[List.takeWhile_append_of_pos lt,List.dropWhile_append_of_pos lt,tw,dw,List.append_nil,List.range_succ,List.map_append,List.append_assoc];rfl
 exact this t (Nat.le_refl _)
def IA{s:Nat}:∀e∈kJ s c,e.2.1=[113]:=λe he=>by obtain⟨j,_,rfl⟩:=List.mem_map.1 he;rfl
def Iz{s:Nat}:((kJ s c).map (·.1)).Nodup:=by unfold kJ;rw[List.map_map];have:((List.range' s c).map ((·.1)∘λk=>(k+1,(([113]:List UInt8),mK k))))=(List.range' s c).map (·+1):=rfl;rw[this];exact(List.nodup_range' (step:=1)).map _ (λa b h=>aa)
def vV(z:Zn)(m t i:Nat)(n:N):Prop:=∃un,n=W z [] [] {hK m 0 with tag:=i} un ((mo m t).drop i) i m
def acC(ht:t<=m):vV .alone m t 0 ((pU m t).drop 1).clean/\vV (.snd []) m t 0 ((pU m t).then 1 (oT 1 20 40))/\
 vV .alone m t 0 (((pU m t).then 1 [120]).then 1 [120,120,120,120,120,120,120])/\vV .alone m t 0 ((pU m t).then 1 (oT 0 10 50)):=by
 have hz:((t:Int)-((kJ 0 t).length:Int))=((0:Nat):Int):=by simp[kJ]
 have hk:({hK m 0 with tag:=((0:Nat):Int)}:HR)=hK m 0:=by cases m<;>rfl
 have b:=YV ht;have e1:=W8 (c2:=[(1,⟨hK m 0,[],[]⟩)]) (r:=r0 [] []) (hr:=Be t) (un:=kJ 0 t) (R:=iN t (m-t)) (h:=t) (k:=m) IA Iz;have e2:=end_1 (c2:=[(1,⟨hK m 0,[],[]⟩)]) (hr:=Be t) (un:=kJ 0 t) (R:=iN t (m-t)) (h:=t) (k:=m) IA Iz rfl (by show(0:Int)<=1;decide);have e3:=acD (c2:=[(1,⟨hK m 0,[],[]⟩)]) (hr:=Be t) (un:=kJ 0 t) (R:=iN t (m-t)) (h:=t) (k:=m) IA Iz;have e4:=acE (c2:=[(1,⟨hK m 0,[],[]⟩)]) (hr:=Be t) (un:=kJ 0 t) (R:=iN t (m-t)) (h:=t) (k:=m) IA Iz;rw[hz,b]at e1 e2 e3 e4;exact⟨⟨[],e1.trans (by rw[hk];rfl)⟩,⟨[],e2.trans (by rw[hk];rfl)⟩,⟨[],e3.trans (by rw[hk];rfl)⟩,⟨[],e4.trans (by rw[hk];rfl)⟩⟩
def Jo(ht:t<=m):(mo m t).length=m:=by simp[mo,iN];omega
def XL(ht:t<=m)(hi:i<(mo m t).length):(mo m t)[i].again=decide (i<t)/\(mo m t)[i].key=[113]:=by
 by_cases h:i<t
 ·have:(mo m t)[i]? =some (CC i):=by unfold mo;rw[List.getElem?_append_left (aW h)];simp[h]
  obtain⟨_,this⟩:=List.getElem?_eq_some_iff.1 this;rw[this];simp[CC,mK,h]
 ·have DR:=hi;rw[Jo ht]at DR
  have:(mo m t)[i]? =some (mK i):=by unfold mo;rw[List.getElem?_append_right (aW h)];have e:i-t<m-t:=aa;have e2:t+(i-t)=i:=aa;simp[iN,e,e2]
  obtain⟨_,this⟩:=List.getElem?_eq_some_iff.1 this;rw[this];simp[mK,h]
def Xy(hz:z.i=2)(ht:t<=m)(hi:i<m)(h:vV z m t i n):vV z m t (i+1) (n.then 2 qL)/\∃b,n.rA 2 qL=xE (i+1) (decide (i<t)) (m-i-1)++b:=by
 obtain⟨un,rfl⟩:=h;have hl:=Jo ht;have e:(mo m t).drop i=(mo m t)[i]::(mo m t).drop (i+1):=List.drop_eq_getElem_cons aa;have g:=XL ht (i:=i) aa;have h:=OF (z:=z) (hr:={hK m 0 with tag:=i}) (un:=un) (m:=(mo m t)[i]) (ms:=(mo m t).drop (i+1)) (h:=i) (k:=m) (t:=i) Rz RA rfl g.2;rw[hz,<-e,g.1]at h;have:((mo m t).drop (i+1)).length=m-i-1:=by simp[hl];omega
 rw[this]at h;exact⟨⟨_,h.1⟩,_,h.2⟩
def Xz(ht:t<=m)(h:vV z m t m n):n.pF=[⟨[113],0,(m:Int),0⟩]:=by obtain⟨un,rfl⟩:=h;have:(mo m t).drop m=[]:=List.drop_eq_nil_of_le (by rw[Jo ht];exact Nat.le_refl _);rw[this];rfl
def Env.same{P:Program}{E E':Env P}(hm:E.main=E'.main)(hs:E.st=E'.st):E=E':=by obtain⟨m,s,w,o⟩:=E;obtain⟨m',s',w',o'⟩:=E';simp only at hm hs;subst hm;subst hs;rfl
section
variable {R:List aM}{f:Nat}
variable {W:World}{f:FuncId}{R:Fin->Hp->Prop}
end
variable {X:Ext}{U:Hp}{b:Nat}
def Gw.add(h:Gw g n X U)(hb:U.f b=none)(o:Obj):Gw g n ((b,o)::X) (U.set b o):=by obtain⟨A,hA,H,a⟩:=h;exact⟨A,hA,H,a.iR hb o⟩
def Gw.at{o:Obj}(h:Gw g n ((b,o)::X) U):U.f b=some o:=by obtain⟨A,hA,H,a⟩:=h;exact a.eK
def akM{b:List UInt8}(h:b.length<=146):(mh 1 [113] b).length<=800:=by
 have key:∀(f:Nat) (b:List UInt8),(eU 1 50 f b).length<=b.length+8*((b.length+49)/50):=by
  intro f
  induction f with
  |zero=>intro b;simp[eU]
  |succ f ih=>
   intro b;rw[eU];split
   ·simp
   ·rename_i hb;have:=ih (b.drop 50);have:=List.length_pos_iff.2 hb;rw[List.length_append,kP,List.length_take];rw[List.length_drop]at*;omega
 have:=key b.length b;simp only[mh,Ad,Bn,List.length_append,vO,kP,bJ,List.length_cons,List.length_nil];omega
section
variable {W:World}
end
def Inv.Am{m:N}{T:Int}{id:Int}(au1:Inv T n)(hs:s.length<=800)(h:n.then id s=m):Inv (T+2000000) m:=by subst h;exact(au1.then (id:=id) (s:=s)).mono aa
def aii:Inv 4000000 sH:=by have h:=(Tn.connect ai).then (id:=2) (s:=mG 0);rw[Tu]at h;have:=KV (h:=0);exact h.mono aa
def P0{ch cl me:Nat}:(oT ch cl me).length<=800:=by simp[oT,vO,bJ]
section
variable {z:Zn}{ch:List (Nat×HN)}{h:Int}{k:Int}{c2:List (Nat×HN)}{f:Nat}{φ:Hp}{U:Hp}
variable {W:World}
def Xx {nn kk hw:Int}{L1:List Value}(b1: -9223372036854775808<=nn/\nn<=9223372036854775807)(b2: -9223372036854775808<=kk/\kk<=9223372036854775807)(b3: -9223372036854775808<=hw/\hw<=9223372036854775807)(hb:Base U L1):
 ay (tT W φ) 5 #[iV nn,iV kk,iV hw] U λe J=>e=.returned (.bool true)/\J.f 0=U.f 0/\J.f 1=U.f 1:=by
 refine aX func5 ntmps5 results5 λQ aD an aA=>?_;refine dU λK0 Bb=>?_;refine ag ?_;refine Bb _ _ _ (dU λK1 mB=>?_);clear Bb K0;refine ag ?_;refine aK (Y1 (h:=0) ai hb Y3 UM UN) ?_;rintro v J ⟨gb,hv,hg⟩
 cases hv
 rw[Pr]at hg;refine ag ?_;refine mB _ _ _ (dU λK2 nB=>?_);clear mB K1;refine ag ?_;refine nB _ _ _ (dU λK3 pb=>?_);clear nB K2;refine ag ?_;refine aK (Tv (n:=mR) (h:=0) (ot:=EW) ai hg Tn ai ai ai ajf UM UN) ?_;rintro v fA ⟨hv,La⟩
 cases hv
 rw[show mR.connect.then (mR.last+1) (mG 0)=sH from Tu,N8]at La;have I1:=aii;rw[N8]at I1;refine ag ?_;refine pb _ _ _ (dU λK4 qO=>?_);clear pb K3;refine ag ?_;refine qO _ _ _ (dU λK5 vZ=>?_);clear qO K4;obtain⟨p,hp,lp⟩:=MY (c:=nn) (n:=20) ai;obtain⟨m,hm,m1,m20⟩:∃m,m=p+1/\1<=m/\m<=20:=⟨_,rfl,aa,aa⟩;have w1:IntKind.i64.wrap (1+(p:Int))=(m:Int):=cH;refine ag ?_;refine aT (MX (n:=((20:Nat):Int)) b1 ai) ?_;rw[hp];refine aJ w1 ?_;refine vZ _ _ _ (dU λK6 zh=>?_);clear vZ K5;refine ag ?_;refine di (λk I ds cf=>ds=[]/\I 1=iV kk/\I 2=iV hw/\I 7=pV gb/\I 8=iV 1/\I 9=iV 2/\I 10=iV m/\∃i:Nat,k=m-i/\i<=m/\I 11=iV i/\Gw gb (Ac i) [] cf/\Inv (4000000+2000000*(i:Int)) (Ac i)) m ?_ ?_
 ·refine⟨rfl,?_,?_,?_,?_,?_,?_,0,rfl,Nat.zero_le _,?_,La,I1⟩<;>exact aQ w1
 rintro k I ds cQ Y ⟨rfl,tO,dY,cz,dZ,cA,cq,i,rfl,xQ,tP,GP,I2⟩ hY;by_cases hi:i<m
 ·have c0:(i:Int)<m:=aa;have w3:=fQ i;have uA:=Jx (i:=i);have SC:=akM uA.2;have st:=WG (i:=i) aa;have I3:=I2.Am SC st;refine jE tO dY cz dZ cA cq tP c0 ?_;refine aT (ZI (i:=i) aa) ?_;refine jR tO dY cz dZ cA cq tP ?_;refine aT (akL (ch:=1) (key:=[113]) (body:=od i) ai ai aa) ?_;refine jR tO dY cz dZ cA cq tP ?_;refine aK (Al (id:=2) (s:=mh 1 [113] (od i)) GP I2 aa aa) ?_;rintro v dB ⟨hv,Tg⟩
  cases hv
  rw[st]at Tg;refine jE tO dY cz dZ cA cq tP w3 ?_;refine hY (m-(i+1)) _ _ _ _ aa ⟨rfl,?_,?_,?_,?_,?_,?_,i+1,rfl,aa,?_,Tg,I3.mono aa⟩ ao
  all_goals simp only[go_sem,seval,tO,dY,cz,dZ,cA,cq,tP,w3]
 have c0:¬(i:Int)<m:=aa;obtain rfl:i=m:=aa;clear hY hi xQ;refine jE tO dY cz dZ cA cq tP c0 ?_;refine zh _ _ _ (dU λK7 Df=>?_);clear zh K6;obtain⟨p2,qZ,lp2⟩:=MY (c:=kk) (n:=i) aa;obtain⟨t,ht,t1,tm⟩:∃t,t=p2+1/\1<=t/\t<=i:=⟨_,rfl,aa,aa⟩;have w2:IntKind.i64.wrap (1+(p2:Int))=(t:Int):=cH;refine jR tO dY cz dZ cA cq tP ?_;refine aT (MX (n:=((i:Nat):Int)) b2 aa) ?_;rw[qZ];refine jE tO dY cz dZ cA cq tP w2 ?_;refine Df _ _ _ (dU λK8 Gu=>?_);clear Df K7;rw[WI]at GP I2;refine jE tO dY cz dZ cA cq tP w2 ?_;refine di (λk aC ds cf=>ds=[]/\aC 2=iV hw/\aC 7=pV gb/\aC 8=iV 1/\aC 9=iV 2/\aC 10=iV i/\aC 12=iV t/\∃j:Nat,k=t-j/\j<=t/\aC 13=iV j/\Gw gb (pU i j) [] cf/\Inv (44000000+2000000*(j:Int)) (pU i j)) t ?_ ?_
 ·refine⟨rfl,?_,?_,?_,?_,?_,?_,0,rfl,Nat.zero_le _,?_,GP,I2.mono aa⟩<;>exact sI tO dY cz dZ cA cq tP w2
 clear tO dY cz dZ cA cq tP La hg GP I2 I1;rintro k lO ds dB Y ⟨rfl,dY,cz,dZ,cA,cq,dh,j,rfl,So,rz,Lb,I3⟩ hY;by_cases hj:j<t
 ·have c1:(j:Int)<t:=aa;have w3:=fQ j;have st:=WE (m:=i) (t:=j) aa;refine jE dY cz dZ cA cq dh rz c1 ?_;refine jR dY cz dZ cA cq dh rz ?_;refine aT (tI (s:=[113]) ai) ?_;refine jR dY cz dZ cA cq dh rz ?_;refine aT (iM (n:=0) (w:=1) ai ai) ?_;have j1:(aw 1 1++[113]).length+(aw 1 0).length<=9223372036854775807:=ai;refine jE dY cz dZ cA cq dh rz j1 ?_;refine aT (qm (ch:=1) (cl:=60) (me:=70) (p:=aw 1 1++[113]++aw 1 0) ai ai ai ai) ?_;have GQ:qL.length<=800:=jb;have eG:fy 1 60 70 (aw 1 1++[113]++aw 1 0)=qL:=rfl;rw[eG];refine jR dY cz dZ cA cq dh rz ?_;have I4:=I3.Am GQ st;refine aK (Al (id:=1) (s:=qL) Lb I3 aa aa) ?_;rintro v iu ⟨hv,zQ⟩
  cases hv
  rw[st]at zQ;refine jE dY cz dZ cA cq dh rz w3 ?_;refine hY (t-(j+1)) _ _ _ _ aa ⟨rfl,?_,?_,?_,?_,?_,?_,j+1,rfl,aa,?_,zQ,I4.mono aa⟩ ao
  all_goals simp only[go_sem,seval,dY,cz,dZ,cA,cq,dh,rz,w3]
 have c1:¬(j:Int)<t:=aa;obtain rfl:j=t:=aa;clear hY hj So w2 c0 w1;refine jE dY cz dZ cA cq dh rz c1 ?_;refine Gu _ _ _ (dU λK9 Ry=>?_);clear Gu K8;refine jR dY cz dZ cA cq dh rz ?_;refine aK (Vp Lb I3.ok) ?_;rintro v5 gB ⟨qv,cv,Xq,Y2,zN,rS,wy,j7⟩;obtain⟨cb,cc,rfl,_⟩:=j7.read;injection zN with zN;subst zN;rw[WH]at rS;obtain⟨A,hA,H,a⟩:=wy;obtain⟨qb,qc,L,rfl,sf⟩:=rS.one a;have tq:Gw gb (pU i j) [] gB:=Gw.drop (Gw.drop ⟨A,hA,H,a⟩);clear j7 rS a hA A H Lb Xq Y2;refine jR dY cz dZ cA cq dh rz ?_;refineλbb eQ=>?_;have GG:∀o,(gB.set bb o).f qb=some (.cells ([sV [113],iV ((i-j:Nat):Int),iV (j:Int),iV 0]++L).toArray 39 (0,0)):=λo=>by rw[Hp.az (bj eQ sf)];exact sf
 have v1:IntKind.i64.wrap ((i:Int)-(j:Int))=((i-j:Nat):Int):=cH;have nt:(decide ¬True)=false:=ai;simp only[go_sem,seval,dY,cz,dZ,cA,cq,dh,rz,GG,v1,nt]
 first|rw[Hp.set_set,Hp.set_set]|rw[Hp.set_set]|skip
 refine Ry _ _ _ (dU λWV Rw=>?_);clear Ry K9;simp only[go_sem,seval,dY,cz,dZ,cA,cq,dh,rz,GG,v1,nt];refine Rw _ _ _ (dU λWX Rx=>?_);clear Rw WV;have zt:=λo=>tq.add eQ o;generalize hO:(Obj.cells _ 36 (0,0))=o2;replace zt:=zt o2;generalize hZ:Hp.set gB bb o2=xv at*;obtain⟨kh,hkh,lkh⟩:=MY (c:=hw) (n:=4) ai
 have tail:∀(I:av) (J:Hp) (z:Zn) (n:N),z.i=2->vV z i j 0 n->Gw gb n [(bb,o2)] J->Inv 100000000 n->I 7=pV gb->I 9=iV 2->I 10=iV i->I 12=iV j->I 14=pV bb->WX I [] J:=by
  clear dY cz dZ cA cq dh rz zt I3;intro I J z n hz hB DJ In cz cA cq dh jD;refine Rx _ _ _ ?_;refine lI cz cA cq dh jD ?_;refine di (λk aC ds cf=>ds=[]/\aC 7=pV gb/\aC 9=iV 2/\aC 10=iV i/\aC 12=iV j/\aC 14=pV bb/\∃(q:Nat) (n':N),k=i-q/\q<=i/\aC 15=iV q/\vV z i j q n'/\Gw gb n' [(bb,o2)] cf/\Inv (100000000+2000000*(q:Int)) n') i ?_ ?_
  ·refine⟨rfl,?_,?_,?_,?_,?_,0,n,rfl,Nat.zero_le _,?_,hB,DJ,In.mono aa⟩<;>exact pI cz cA cq dh jD
  clear cz cA cq dh jD hB DJ In n I J;rintro k FC ds lP Y ⟨rfl,cz,cA,cq,dh,jD,q,n,rfl,lY,kX,hB,DJ,In⟩ hY;by_cases hq:q<i
  ·have c2:(q:Int)<i:=aa;have w3:=fQ q;obtain⟨uu,rest,eS⟩:=Xy hz aa hq hB;refine jR cz cA cq dh jD kX c2 ?_;refine jQ cz cA cq dh jD kX ?_;refine aT (tI (s:=[113]) ai) ?_;refine jQ cz cA cq dh jD kX ?_;refine aT (iM (n:=0) (w:=1) ai ai) ?_;have j1:(aw 1 1++[113]).length+(aw 1 0).length<=9223372036854775807:=ai;refine jR cz cA cq dh jD kX j1 ?_;refine aT (qm (ch:=1) (cl:=60) (me:=70) (p:=aw 1 1++[113]++aw 1 0) ai ai ai ai) ?_;have GQ:qL.length<=800:=jb;have eG:fy 1 60 70 (aw 1 1++[113]++aw 1 0)=qL:=rfl;rw[eG];refine jQ cz cA cq dh jD kX ?_;have I4:=In.Am GQ (rfl:n.then 2 qL=_);refine aK (Al (id:=2) (s:=qL) DJ In aa aa) ?_;rintro v Cq ⟨hv,Bq⟩;obtain⟨out,ho⟩:∃out,out=n.rA 2 qL:=⟨_,rfl⟩;rw[<-ho]at hv eS
   cases hv
   have w4:IntKind.i64.wrap ((i:Int)-(q:Int))=((i-q:Nat):Int):=cH;have w5:IntKind.i64.wrap (((i-q:Nat):Int)-1)=((i-q-1:Nat):Int):=cH;by_cases SO:q<j
   ·have c3:(q:Int)<j:=aa;rw[show decide (q<j)=true by simp[SO]]at eS;have eW:fy 1 60 71 (aw 8 (q+1)++aw 1 1++(aw 1 1++[113])++aw 4 (i-q-1))=xE (q+1) true (i-q-1):=rfl;refine jE cz cA cq dh jD kX c3 w3 ?_;refine aT (iM (n:=q+1) (w:=8) ai aa) ?_;refine jQ cz cA cq dh jD kX ?_;refine aT (iM (n:=1) (w:=1) ai ai) ?_;have j2:(aw 8 (q+1)).length+(aw 1 1).length<=9223372036854775807:=by simp[bJ]
    refine jR cz cA cq dh jD kX j2 ?_;refine aT (tI (s:=[113]) ai) ?_;have j3:(aw 8 (q+1)++aw 1 1).length+(aw 1 1++[113]).length<=9223372036854775807:=by simp[bJ]
    simp only[go_sem,seval,cz,cA,cq,dh,jD,kX,j3,w4,w5];refine aT (iM (n:=i-q-1) (w:=4) ai aa) ?_;have j4:(aw 8 (q+1)++aw 1 1++(aw 1 1++[113])).length+(aw 4 (i-q-1)).length<=9223372036854775807:=by simp[bJ]
    refine jR cz cA cq dh jD kX j4 ?_;refine aT (qm (ch:=1) (cl:=60) (me:=71) (p:=aw 8 (q+1)++aw 1 1++(aw 1 1++[113])++aw 4 (i-q-1)) ai ai ai (by simp[bJ])) ?_;rw[eW];generalize xE (q+1) true (i-q-1)=want at*;have hl:out.length=want.length+rest.length:=by rw[eS,List.length_append]
    have c4:¬(out.length:Int)<want.length:=aa;have c5:(0:Int)<=want.length/\(want.length:Int)<=out.length:=aa;have tw:out.take (want.length-0)=want:=by rw[eS];simp
    have nt:(decide ¬True)=false:=ai;simp only[go_sem,seval,cz,cA,cq,dh,jD,kX,c4,c5,tw,nt,w3,Int.toNat_natCast];refine hY (i-(q+1)) _ _ _ _ aa ⟨rfl,?_,?_,?_,?_,?_,q+1,_,rfl,aa,?_,uu,Bq,I4.mono aa⟩ ao
    all_goals simp only[go_sem,seval,cz,cA,cq,dh,jD,kX,w3]
   ·have c3:¬(q:Int)<j:=aa;rw[show decide (q<j)=false by simp[SO]]at eS;have eW:fy 1 60 71 (aw 8 (q+1)++aw 1 0++(aw 1 1++[113])++aw 4 (i-q-1))=xE (q+1) false (i-q-1):=rfl;refine jE cz cA cq dh jD kX c3 w3 ?_;refine aT (iM (n:=q+1) (w:=8) ai aa) ?_;refine jQ cz cA cq dh jD kX ?_;refine aT (iM (n:=0) (w:=1) ai ai) ?_;have j2:(aw 8 (q+1)).length+(aw 1 0).length<=9223372036854775807:=by simp[bJ]
    refine jR cz cA cq dh jD kX j2 ?_;refine aT (tI (s:=[113]) ai) ?_;have j3:(aw 8 (q+1)++aw 1 0).length+(aw 1 1++[113]).length<=9223372036854775807:=by simp[bJ]
    simp only[go_sem,seval,cz,cA,cq,dh,jD,kX,j3,w4,w5];refine aT (iM (n:=i-q-1) (w:=4) ai aa) ?_;have j4:(aw 8 (q+1)++aw 1 0++(aw 1 1++[113])).length+(aw 4 (i-q-1)).length<=9223372036854775807:=by simp[bJ]
    refine jR cz cA cq dh jD kX j4 ?_;refine aT (qm (ch:=1) (cl:=60) (me:=71) (p:=aw 8 (q+1)++aw 1 0++(aw 1 1++[113])++aw 4 (i-q-1)) ai ai ai (by simp[bJ])) ?_;rw[eW];generalize xE (q+1) false (i-q-1)=want at*;have hl:out.length=want.length+rest.length:=by rw[eS,List.length_append]
    have c4:¬(out.length:Int)<want.length:=aa;have c5:(0:Int)<=want.length/\(want.length:Int)<=out.length:=aa;have tw:out.take (want.length-0)=want:=by rw[eS];simp
    have nt:(decide ¬True)=false:=ai;simp only[go_sem,seval,cz,cA,cq,dh,jD,kX,c4,c5,tw,nt,w3,Int.toNat_natCast];refine hY (i-(q+1)) _ _ _ _ aa ⟨rfl,?_,?_,?_,?_,?_,q+1,_,rfl,aa,?_,uu,Bq,I4.mono aa⟩ ao
    all_goals simp only[go_sem,seval,cz,cA,cq,dh,jD,kX,w3]
  have c2:¬(q:Int)<i:=aa;obtain rfl:q=i:=aa;clear hY hq lY;refine jR cz cA cq dh jD kX c2 ?_;have hS:=Xz aa hB;refine aK (Vp DJ In.ok) ?_;rintro v5 Cq ⟨qv,cv,Xq,Y2,zN,rS,wy,j7⟩;obtain⟨cb,cc,rfl,_⟩:=j7.read;injection zN with zN;subst zN;rw[hS]at rS;obtain⟨A,hA,H,a⟩:=wy;obtain⟨qb,qc,L,rfl,sf⟩:=rS.one a;have Lc:Gw gb n [(bb,o2)] Cq:=Gw.drop (Gw.drop ⟨A,hA,H,a⟩);have Dv:=Lc.at;rw[<-hO]at Dv;have aE:qb≠bb:=bj sf Dv;have GG:∀o,(Cq.set bb o).f qb=some (.cells ([sV [113],iV 0,iV (q:Int),iV 0]++L).toArray 39 (0,0)):=λo=>by rw[Hp.az aE];exact sf
  have b0:=Base.same hb Lc;have GD:=Lc.Jv;have xV:(0:Nat)≠bb:=λe=>by subst e;rw[Dv]at GD;cases GD.1
  have uH:(1:Nat)≠bb:=λe=>by subst e;rw[Dv]at GD;have:=GD.2;cases this
  refine jE cz cA cq dh jD kX Dv GG ?_;refine an aI ao ⟨by simp[up],?_,?_⟩
  ·show Hp.f _ 0=_;simp only[Hp.az xV];exact b0.1
  ·show Hp.f _ 1=_;simp only[Hp.az uH];exact b0.2
 clear Rx;obtain⟨e0,e1,e2,e3⟩:=acC (m:=i) (t:=j) aa;refine jQ dY cz dZ cA cq dh ?_;refine aT (MX (n:=((4:Nat):Int)) b3 ai) ?_;rw[hkh];have h4k:kh=0\/kh=1\/kh=2\/kh=3:=aa;rcases h4k with tr|tr|tr|tr
 ·obtain rfl:kh=0:=tr;refine jQ dY cz dZ cA cq dh ?_;have Sc:=acf (E:=tT W φ) (id:=1) zt I3 aa;rw[show(pU i j).ar 1=some _ from yV (z:=.fst [(1,⟨hK i 0,[],[]⟩)])]at Sc;refine aK Sc ?_;rintro v lP ⟨v',Xp,hv,hp,Bq⟩
  cases hv
  refine jQ dY cz dZ cA cq dh ?_;refine tail _ _ .alone _ rfl e0 Bq.drop (I3.drop.mono aa) ?_ ?_ ?_ ?_ ?_
  all_goals simp only[go_sem,seval,dY,cz,dZ,cA,cq,dh]
 ·obtain rfl:kh=1:=tr;refine jQ dY cz dZ cA cq dh ?_;refine aT (iM (n:=0) (w:=2) ai ai) ?_;refine jQ dY cz dZ cA cq dh ?_;refine aT (tI (s:=[]) ai) ?_;have j1:(aw 2 0).length+(aw 1 0).length<=9223372036854775807:=ai;refine jR dY cz dZ cA cq dh j1 ?_;refine aT (iM (n:=0) (w:=4) ai ai) ?_;have j2:(aw 2 0++aw 1 0).length+(aw 4 0).length<=9223372036854775807:=ai;refine jR dY cz dZ cA cq dh j2 ?_;refine aT (qm (ch:=1) (cl:=20) (me:=40) (p:=aw 2 0++aw 1 0++aw 4 0) ai ai ai ai) ?_;have eG:fy 1 20 40 (aw 2 0++aw 1 0++aw 4 0)=oT 1 20 40:=rfl;rw[eG];have aH:=P0 (ch:=1) (cl:=20) (me:=40);refine jQ dY cz dZ cA cq dh ?_;refine aK (Al (id:=1) (s:=oT 1 20 40) zt I3 aa aa) ?_;rintro v lP ⟨hv,uR⟩
  cases hv
  refine jQ dY cz dZ cA cq dh ?_;refine tail _ _ (.snd []) _ rfl e1 uR ((I3.Am aH rfl).mono aa) ?_ ?_ ?_ ?_ ?_
  all_goals simp only[go_sem,seval,dY,cz,dZ,cA,cq,dh]
 ·obtain rfl:kh=2:=tr;refine jQ dY cz dZ cA cq dh ?_;have tz:([120]:List UInt8).length<=800:=ai;have rh:([120,120,120,120,120,120,120]:List UInt8).length<=800:=ai;refine aK (Al (id:=1) (s:=[120]) zt I3 aa aa) ?_;rintro v lP ⟨hv,uR⟩
  cases hv
  have I5:=I3.Am (id:=1) tz rfl;refine jQ dY cz dZ cA cq dh ?_;refine aK (Al (id:=1) (s:=[120,120,120,120,120,120,120]) uR I5 aa aa) ?_;rintro v Cq ⟨hv,Bq⟩
  cases hv
  refine jQ dY cz dZ cA cq dh ?_;refine tail _ _ .alone _ rfl e2 Bq ((I5.Am rh rfl).mono aa) ?_ ?_ ?_ ?_ ?_
  all_goals simp only[go_sem,seval,dY,cz,dZ,cA,cq,dh]
 ·obtain rfl:kh=3:=tr;refine jQ dY cz dZ cA cq dh ?_;refine aT (iM (n:=0) (w:=2) ai ai) ?_;refine jQ dY cz dZ cA cq dh ?_;refine aT (tI (s:=[]) ai) ?_;have j1:(aw 2 0).length+(aw 1 0).length<=9223372036854775807:=ai;refine jR dY cz dZ cA cq dh j1 ?_;refine aT (iM (n:=0) (w:=4) ai ai) ?_;have j2:(aw 2 0++aw 1 0).length+(aw 4 0).length<=9223372036854775807:=ai;refine jR dY cz dZ cA cq dh j2 ?_;refine aT (qm (ch:=0) (cl:=10) (me:=50) (p:=aw 2 0++aw 1 0++aw 4 0) ai ai ai ai) ?_;have eG:fy 0 10 50 (aw 2 0++aw 1 0++aw 4 0)=oT 0 10 50:=rfl;rw[eG];have aH:=P0 (ch:=0) (cl:=10) (me:=50);refine jQ dY cz dZ cA cq dh ?_;refine aK (Al (id:=1) (s:=oT 0 10 50) zt I3 aa aa) ?_;rintro v lP ⟨hv,uR⟩
  cases hv
  refine jQ dY cz dZ cA cq dh ?_;refine tail _ _ .alone _ rfl e3 uR ((I3.Am aH rfl).mono aa) ?_ ?_ ?_ ?_ ?_
  all_goals simp only[go_sem,seval,dY,cz,dZ,cA,cq,dh]
end
end Go.Qw
