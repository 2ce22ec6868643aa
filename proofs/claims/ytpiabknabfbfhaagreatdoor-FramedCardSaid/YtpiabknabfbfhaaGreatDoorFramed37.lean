/- 37 -/
import Derived.Stop.Joined
import Derived.ChangeSlices
import Derived.Carry
import Derived.Test.YtpiabknabfbfhaaGreatDoorFramed36
set_option linter.all false
set_option maxRecDepth 100000
set_option maxHeartbeats 8000000
namespace Go.Proofs.YtpiabknabfbfhaaGreatDoor
open Go Go.Qw Go.Conc Go.ChangeShapes Go.WideShapes Go.ChangeAt Go.RowKit Go.Lib
theorem OJ {W:World}{a:Addr}{v:Value}(h:W.cell? a=some v):a.spot=none/\∃cs e z,W.heap[a.block]? =some (.cells cs e z)/\cs[a.off]? =some v:=by
 unfold World.cell? at h;split at h
 ·rename_i c e z hb;split at h
  ·cases h
  ·rename_i hs;exact⟨by simpa using hs,c,e,z,hb,h⟩
 ·cases h
theorem ala {W:World}{ab:Nat}{o:Obj}(h2:¬ab<2)(hb:W.heap[ab]? =some o):
 ((⟨λb=>W.heap[b]?⟩:Hp).only λk=>k<2\/k=ab)=((⟨λb=>W.heap[b]?⟩:Hp).only λk=>k<2).set ab o:=Hp.ext' λx=>by
 by_cases e:x=ab
 ·subst e;rw[Hp.bD,Hp.Ej (U:=⟨λb=>W.heap[b]?⟩) (D:=λk=>k<2\/k=x) hb (.inr rfl)]
 ·rw[Hp.aM _ e];simp[Hp.only,e]
end Go.Proofs.YtpiabknabfbfhaaGreatDoor
