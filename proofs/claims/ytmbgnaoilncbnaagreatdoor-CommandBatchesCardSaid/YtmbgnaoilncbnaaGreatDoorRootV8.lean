/- PROVED HERE: decretallaw27.CommandBatches returns true, whatever the input; the input reads as it did. No conditions but the card's own: the listed variables hold what the program's text lays. -/
import Derived.Test.YtmbgnaoilncbnaaGreatDoorX39
import Derived.Test.YtmbgnaoilncbnaaGreatDoorTie
import Derived.Test.YtmbgnaoilncbnaaGreatDoorCards
import Derived.SevenTiedAt
set_option linter.all false
set_option maxHeartbeats 4000000
namespace Go.Proofs.YtmbgnaoilncbnaaGreatDoor
open Go.AM Go.ChangeShapes Go.WideShapes Go.ChangeAt Go.RowKit
set_option maxRecDepth 100000 in
def FU (os : Os) (started : os.Started) (H : Type) (enc : TypeId × Value -> H) :
    ReturnsInHanded {} Tryz.checked os 10 .any (fun w args=>(Rows.commandBatchesSpec.pre enc Tryz.checked.prog Tryz.f10 [] false w args/\laidMetH Tryz.prog wT w)/\sizedMet enc Tryz.checked.prog Tryz.f10 (OpenSpec.ofChange Rows.commandBatchesSpec) false w args) (Rows.commandBatchesSpec.post enc Tryz.checked.prog Tryz.f10 false true false false):=by
 refine UP #[.slice none 0 0,.string ByteArray.empty] started (by kernel_rfl) Tryz.func10 (by kernel_rfl) (by kernel_rfl) (by kernel_rfl) (by kernel_rfl) (by kernel_rfl) ?_;intro W base args ds gs before hval hW hG;have U1:=hW;obtain⟨p,q,hA,hV,rfl,_,_⟩:=hW;rw[Tryz.params10]at hA hval;obtain⟨v0,vs0,d0,oC,p0,q0,ha,rfl,rfl,h0,hA⟩:=trodAll_cons hA;obtain⟨v1,vs1,d1,Cq,p1,q1,rfl,rfl,rfl,h1,hA⟩:=trodAll_cons hA;obtain⟨rfl,rfl,rfl⟩:=trodAll_nil hA;obtain⟨rfl,rfl⟩:=trodVars_none hV;obtain rfl:args = #[v0,v1]:=by rw[<-Array.toList_inj,ha]
 obtain⟨c0,U2,pF⟩:=Yx (hval 0 48 v0 rfl rfl) h0;obtain⟨s1,rfl,rfl,rfl,_⟩:=ChangeMaps.open_string Tryz.underlying9 (hval 1 9 v1 rfl rfl) h1;exact vC (G4 c0 s1.data.toList U2) U1 hG kids full (by rw[Tryz.params10];decide) rfl rfl Tryz.underlying4 rfl rfl (UQ pF (VR.string s1))
def Mz: Rows.commandBatchesRow.wf (OpenSpec.ofChange Rows.commandBatchesSpec)=true:=by kernel_rfl
def MA: namedTie Tryz.checked.prog Rows.commandBatchesRow.named Rows.commandBatchesSpec.vars=true:=by kernel_rfl
def MB: (Rows.commandBatchesRow.inPlace==Tryz.checked.prog.inPlace 10)=true:=by kernel_rfl
def MC: (Rows.commandBatchesRow.unfollowed==Tryz.checked.prog.unfollowed 10)=true:=by kernel_rfl
def MD: (Rows.commandBatchesRow.recurses==Tryz.checked.prog.recurses 10)=true:=by kernel_rfl
def ME: (Rows.commandBatchesRow.named==Tryz.checked.prog.varsNamed 10)=true:=by kernel_rfl
def MG: (Rows.commandBatchesRow.plainKeys==Tryz.checked.prog.plainKeys)=true:=by kernel_rfl
def MH: (Rows.commandBatchesRow.lifted==Tryz.checked.prog.liftsFinal)=true:=by kernel_rfl
def FV: joinedFacts Tryz.checked.prog 10 Tryz.f10 Rows.commandBatchesSpec Rows.commandBatchesRow=true:=by
 unfold joinedFacts;rw[Mz,MA,MB,MC,MD,ME,MG,MH,Md,Me,G2,G3];kernel_rfl
def JU: Rows.CommandBatchesSaid :=
 OpenClaim.holds_of_wide 10 Tryz.f10 rfl rfl rfl rfl rfl rfl rfl ⟨rfl,rfl,rfl,rfl,rfl⟩ rfl rfl rfl rfl rfl (by kernel_rfl) Tryz.func10 FV
  (of_decide_eq_true (by kernel_rfl)) (by unfold Func.isWrapper;first|(rw[if_pos (by decide +kernel)];kernel_rfl)|(rw[if_neg (by decide +kernel)];exact⟨rfl,rfl⟩))
  (fun os started H enc _=>FU os started H enc)
theorem commandBatches_holds: Rows.CommandBatchesCardSaid :=
 Claim7.holds_tied_plain_at .later [] [.data, .data, .data] true (true, "7fd39b441e49197c36bddc88708feb7a5eab2a27fa32c29dc58c64db58688971") false
  JU (fun _ h=>by cases h) (by kernel_rfl) (fun _ h=>by cases h) commandBatches_row_tie rfl ⟨rfl,rfl⟩ (by kernel_rfl) rfl
  (fun f fn hf hfn => by
    obtain rfl : f = 10 := Option.some.inj ((show Tryz.prog.funcNamed "decretal/decretallaw27.CommandBatches" = some 10 by kernel_rfl).symm.trans hf) |>.symm
    obtain rfl:fn=Tryz.f10:=(Option.some.inj (Tryz.func10.symm.trans hfn)).symm
    exact⟨by kernel_rfl,fun j t ht=>by
     rw[Tryz.params10]at ht
     have h3:Tryz.prog.wantsStandIn t=false:=by
      rcases j with _|_|j
      ·obtain rfl:48=t:=by simpa using ht
       kernel_rfl
      ·obtain rfl:9=t:=by simpa using ht
       kernel_rfl
      ·simp at ht
     exact h3⟩)
  (by kernel_rfl)
end Go.Proofs.YtmbgnaoilncbnaaGreatDoor
