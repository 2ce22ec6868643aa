/- The law Kept of queuewirekeep returns true for every input that its guards let in: the row over the given program, tied to its text; no condition besides. -/
import Derived.Test.YtpiabknabfbfhaaGreatDoorCards
import Derived.Test.YtpiabknabfbfhaaGreatDoorTie
import Derived.SevenTiedAt
import Derived.Test.YtpiabknabfbfhaaGreatDoorKept18
set_option linter.all false
set_option maxRecDepth 100000
set_option maxHeartbeats 8000000
namespace Go.Proofs.YtpiabknabfbfhaaGreatDoor
open Go Go.Qw
theorem aqm (Lk:Looks){p:Pinned}{s:OpenSpec}{c:OpenClaim}(kinds:List LaidKind)(Nh:Bool)(ze:Bool×String)(lk g:Bool)
 (hc:c.holds p s) (hw:c.wfByText s=true) (agQ:c.laidByTextAt Lk p kinds Nh)
 (bw:c.start=.entering) (v8:c.noBlocks=false/\c.again=false) (hm:p.checked.prog.mainIs=some (ze.1,ze.2.toList)) (hn:(!ze.1&&ze.2.isEmpty&& !lk)=false)
 (hl:∀f fn,p.checked.prog.funcNamed c.func=some f->p.checked.prog.funcs[f]? =some fn->lk=p.checked.prog.looks []/\∀(j:Nat) t,fn.params[j]? =some t->p.checked.prog.wantsStandIn t=false)
 (hg:g=c.goesBy p.checked.prog):
 Claim7.holds p (.plain s) {stood:={row:=c,standIns:=[],harness:=ze,looks:=lk},kinds:=[],alts:=[],goes:=g,laidByText:=true,laidKinds:=kinds,laidTests:=Nh,laidLooks:=Lk}:=by
 have h6:∀r:OpenClaim,Claim7.isSixth {stood:={row:=r,standIns:=[],harness:=ze,looks:=lk},kinds:=[]}=false:=λr=>by simpa[Claim7.isSixth]using hn
 exact⟨Claim7.tied_new_at Lk kinds Nh (Claim7.new_of_sixth hc ze lk bw v8 hm (h6 c) hl) hw,(λD hD=>by cases hD),agQ,(λh=>by cases h),hg⟩
theorem aiO:Rows.KeptSaid:=
 OpenClaim.holds_of_wide_leaving 3 Tryz.f3 rfl rfl rfl rfl rfl rfl rfl ⟨rfl,rfl,rfl,rfl,rfl⟩ rfl rfl rfl rfl rfl Yo Tryz.func3 Yn Ym Yp
  (λos started H enc _=>aiM os started H enc)
theorem kept_card:Rows.KeptCardSaid:=
 aqm .later [.handle,.data,.pinned,.pinned] true (true,"3c310d2ca3cb1cec6d5937fe32e7f1f8b4eb53f7f1f85f53cb108448302eb172") true true
  aiO (by kernel_rfl) kept_row_tie rfl ⟨rfl,rfl⟩ (by kernel_rfl) rfl
  (λf fn hf rQ=>by
   obtain rfl:f=3:=Option.some.inj ((show Tryz.prog.funcNamed "queuewire/queuewirekeep.Kept" =some 3 by kernel_rfl).symm.trans hf)|>.symm
   obtain rfl:fn=Tryz.f3:=(Option.some.inj (Tryz.func3.symm.trans rQ)).symm
   exact⟨by kernel_rfl,λj t ht=>by
    rw[Tryz.params3]at ht
    have hm:t∈[22]:=by
     have:=Array.mem_of_getElem? ht
     simpa using this
    have lY:([22].all λu=> !Tryz.prog.wantsStandIn u)=true:=by kernel_rfl
    exact(show Tryz.prog.wantsStandIn t=false by simpa using List.all_eq_true.1 lY t hm)⟩)
  (by kernel_rfl)
#print axioms kept_card
end Go.Proofs.YtpiabknabfbfhaaGreatDoor
