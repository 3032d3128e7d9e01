/- PROVED HERE: decretallaw25.ModelSound returns true, whatever the input; the input reads as it did. No conditions but the card's own: the listed variables hold what the program's text lays. -/
import Derived.Test.YtoldfccfpameeaaGreatDoorV16
import Derived.Test.YtoldfccfpameeaaGreatDoorTie
import Derived.Test.YtoldfccfpameeaaGreatDoorCards
import Derived.SevenTiedAt
set_option linter.all false
namespace Go.Proofs.YtoldfccfpameeaaGreatDoor
open Go.AM Go.ChangeShapes Go.WideShapes Go.ChangeAt Go.RowKit
set_option maxRecDepth 100000 in
def Ht (os : Os) (started : os.Started) (H : Type) (enc : TypeId × Value -> H) :
    ReturnsInHanded {} Tryz.checked os 3 .any (fun w args=>(Rows.modelSoundSpec.pre enc Tryz.checked.prog Tryz.f3 [] false w args/\laidMetH Tryz.prog zJ w)/\sizedMet enc Tryz.checked.prog Tryz.f3 (OpenSpec.ofChange Rows.modelSoundSpec) false w args) (Rows.modelSoundSpec.post enc Tryz.checked.prog Tryz.f3 false true false false):=by
 refine ai1 #[.slice none 0 0] started (by kernel_rfl) Tryz.func3 (by kernel_rfl) (by kernel_rfl) (by kernel_rfl) (by kernel_rfl) (by kernel_rfl) ?_;intro W base args ds gs before hval hW hG;have hW':=hW;obtain⟨p,q,hA,hV,rfl,_,_⟩:=hW;rw[Tryz.params3]at hA hval;obtain⟨v0,vs0,d0,tU,p0,q0,ha,rfl,rfl,h0,hA⟩:=trodAll_cons hA;obtain⟨rfl,rfl,rfl⟩:=trodAll_nil hA;obtain⟨rfl,rfl⟩:=trodVars_none hV;obtain rfl:args = #[v0]:=by rw[<-Array.toList_inj,ha]
 obtain⟨a0,hr0,nk⟩:=ae3 (hval 0 22 v0 rfl rfl) h0;exact Px (QM a0 hr0) hW' hG kids full (by rw[Tryz.params3];decide) rfl rfl Tryz.underlying4 rfl rfl (ai2 nk)
def Py: Rows.modelSoundRow.wf (OpenSpec.ofChange Rows.modelSoundSpec)=true:=by kernel_rfl
def Pz: namedTie Tryz.checked.prog Rows.modelSoundRow.named Rows.modelSoundSpec.vars=true:=by kernel_rfl
def PA: (Rows.modelSoundRow.inPlace==Tryz.checked.prog.inPlace 3)=true:=by kernel_rfl
def PB: (Rows.modelSoundRow.unfollowed==Tryz.checked.prog.unfollowed 3)=true:=by kernel_rfl
def PC: (Rows.modelSoundRow.recurses==Tryz.checked.prog.recurses 3)=true:=by kernel_rfl
def PD: (Rows.modelSoundRow.named==Tryz.checked.prog.varsNamed 3)=true:=by kernel_rfl
def PE: (Rows.modelSoundRow.plainKeys==Tryz.checked.prog.plainKeys)=true:=by kernel_rfl
def PG: (Rows.modelSoundRow.lifted==Tryz.checked.prog.liftsFinal)=true:=by kernel_rfl
def Hu: joinedFacts Tryz.checked.prog 3 Tryz.f3 Rows.modelSoundSpec Rows.modelSoundRow=true:=by
 unfold joinedFacts;rw[Py,Pz,PA,PB,PC,PD,PE,PG,ae4,ae5,abW,abX];kernel_rfl
def Mf: Rows.ModelSoundSaid :=
 OpenClaim.holds_of_wide 3 Tryz.f3 rfl rfl rfl rfl rfl rfl rfl ⟨rfl,rfl,rfl,rfl,rfl⟩ rfl rfl rfl rfl rfl (by kernel_rfl) Tryz.func3 Hu
  (of_decide_eq_true (by kernel_rfl)) (by unfold Func.isWrapper;first|(rw[if_pos (by decide +kernel)];kernel_rfl)|(rw[if_neg (by decide +kernel)];exact⟨rfl,rfl⟩))
  (fun os started H enc _=>Ht os started H enc)
theorem modelSound_holds: Rows.ModelSoundCardSaid :=
 Claim7.holds_tied_plain_at .later [] [.data, .data, .data] true (true, "9bcb15f2d34581820abdc5bc8f3bb99517f0a42d1064fceca4edbae380a54eb6") true
  Mf (fun _ h=>by cases h) (by kernel_rfl) (fun _ h=>by cases h) modelSound_row_tie rfl ⟨rfl,rfl⟩ (by kernel_rfl) rfl
  (fun f fn hf hfn => by
    obtain rfl : f = 3 := Option.some.inj ((show Tryz.prog.funcNamed "decretal/decretallaw25.ModelSound" = some 3 by kernel_rfl).symm.trans hf) |>.symm
    obtain rfl:fn=Tryz.f3:=(Option.some.inj (Tryz.func3.symm.trans hfn)).symm
    exact⟨by kernel_rfl,fun j t ht=>by
     rw[Tryz.params3]at ht
     have h3:Tryz.prog.wantsStandIn t=false:=by
      rcases j with _|j
      ·obtain rfl:22=t:=by simpa using ht
       kernel_rfl
      simp at ht
     exact h3⟩)
  (WT _ Y_ _ rfl)
