/- PROVED HERE: decretallaw25.ModelRefused returns true, whatever the input; the input reads as it did. No conditions but the card's own: the listed variables hold what the program's text lays. -/
import Derived.Test.YtoldfccfpameeaaGreatDoorX16
import Derived.Test.YtoldfccfpameeaaGreatDoorTie
import Derived.Test.YtoldfccfpameeaaGreatDoorCards
import Derived.SevenTiedAt
set_option linter.all false
namespace Go.Proofs.YtoldfccfpameeaaGreatDoor
open Go.AM Go.ChangeShapes Go.WideShapes Go.ChangeAt Go.RowKit
set_option maxRecDepth 100000 in
def EP (os : Os) (started : os.Started) (H : Type) (enc : TypeId × Value -> H) :
    ReturnsInHanded {} Tryz.checked os 4 .any (fun w args=>(Rows.modelRefusedSpec.pre enc Tryz.checked.prog Tryz.f4 [] false w args/\laidMetH Tryz.prog ye w)/\sizedMet enc Tryz.checked.prog Tryz.f4 (OpenSpec.ofChange Rows.modelRefusedSpec) false w args) (Rows.modelRefusedSpec.post enc Tryz.checked.prog Tryz.f4 false true false false):=by
 refine afc #[.slice none 0 0] started (by kernel_rfl) Tryz.func4 (by kernel_rfl) (by kernel_rfl) (by kernel_rfl) (by kernel_rfl) (by kernel_rfl) ?_;intro W base args ds gs before hval hW hG;have hW':=hW;obtain⟨p,q,hA,hV,rfl,_,_⟩:=hW;rw[Tryz.params4]at hA hval;obtain⟨v0,vs0,d0,sO,p0,q0,ha,rfl,rfl,h0,hA⟩:=trodAll_cons hA;obtain⟨rfl,rfl,rfl⟩:=trodAll_nil hA;obtain⟨rfl,rfl⟩:=trodVars_none hV;obtain rfl:args = #[v0]:=by rw[<-Array.toList_inj,ha]
 obtain⟨a0,ZS,mF⟩:=VL (hval 0 22 v0 rfl rfl) h0;exact En (M0 a0 ZS) hW' hG kids full (by rw[Tryz.params4];decide) rfl rfl Tryz.underlying4 rfl rfl (ajA mF)
def KJ: Rows.modelRefusedRow.wf (OpenSpec.ofChange Rows.modelRefusedSpec)=true:=by kernel_rfl
def KL: namedTie Tryz.checked.prog Rows.modelRefusedRow.named Rows.modelRefusedSpec.vars=true:=by kernel_rfl
def KM: (Rows.modelRefusedRow.inPlace==Tryz.checked.prog.inPlace 4)=true:=by kernel_rfl
def KN: (Rows.modelRefusedRow.unfollowed==Tryz.checked.prog.unfollowed 4)=true:=by kernel_rfl
def KO: (Rows.modelRefusedRow.recurses==Tryz.checked.prog.recurses 4)=true:=by kernel_rfl
def KP: (Rows.modelRefusedRow.named==Tryz.checked.prog.varsNamed 4)=true:=by kernel_rfl
def KQ: (Rows.modelRefusedRow.plainKeys==Tryz.checked.prog.plainKeys)=true:=by kernel_rfl
def KR: (Rows.modelRefusedRow.lifted==Tryz.checked.prog.liftsFinal)=true:=by kernel_rfl
def EU: joinedFacts Tryz.checked.prog 4 Tryz.f4 Rows.modelRefusedSpec Rows.modelRefusedRow=true:=by
 unfold joinedFacts;rw[KJ,KL,KM,KN,KO,KP,KQ,KR,VM,VN,Ru,Rv];kernel_rfl
def Ja: Rows.ModelRefusedSaid :=
 OpenClaim.holds_of_wide 4 Tryz.f4 rfl rfl rfl rfl rfl rfl rfl ⟨rfl,rfl,rfl,rfl,rfl⟩ rfl rfl rfl rfl rfl (by kernel_rfl) Tryz.func4 EU
  (of_decide_eq_true (by kernel_rfl)) (by unfold Func.isWrapper;first|(rw[if_pos (by decide +kernel)];kernel_rfl)|(rw[if_neg (by decide +kernel)];exact⟨rfl,rfl⟩))
  (fun os started H enc _=>EP os started H enc)
theorem modelRefused_holds: Rows.ModelRefusedCardSaid :=
 Claim7.holds_tied_plain_at .later [] [.data, .data, .data] true (true, "9bcb15f2d34581820abdc5bc8f3bb99517f0a42d1064fceca4edbae380a54eb6") true
  Ja (fun _ h=>by cases h) (by kernel_rfl) (fun _ h=>by cases h) modelRefused_row_tie rfl ⟨rfl,rfl⟩ (by kernel_rfl) rfl
  (fun f fn hf hfn => by
    obtain rfl : f = 4 := Option.some.inj ((show Tryz.prog.funcNamed "decretal/decretallaw25.ModelRefused" = some 4 by kernel_rfl).symm.trans hf) |>.symm
    obtain rfl:fn=Tryz.f4:=(Option.some.inj (Tryz.func4.symm.trans hfn)).symm
    exact⟨by kernel_rfl,fun j t ht=>by
     rw[Tryz.params4]at ht
     have h3:Tryz.prog.wantsStandIn t=false:=by
      rcases j with _|j
      ·obtain rfl:22=t:=by simpa using ht
       kernel_rfl
      simp at ht
     exact h3⟩)
  (KS _ Oq _ rfl)
