/- PROVED HERE: decretallaw27.CommandOne returns true, whatever the input; the input reads as it did. No conditions but the card's own: the listed variables hold what the program's text lays. -/
import Derived.Test.YtmbgnaoilncbnaaGreatDoorX39
import Derived.Test.YtmbgnaoilncbnaaGreatDoorTie
import Derived.Test.YtmbgnaoilncbnaaGreatDoorCards
import Derived.SevenTiedAt
set_option linter.all false
set_option maxHeartbeats 4000000
namespace Go.Proofs.YtmbgnaoilncbnaaGreatDoor
open Go.AM Go.ChangeShapes Go.WideShapes Go.ChangeAt Go.RowKit
set_option maxRecDepth 100000 in
def Mw (os : Os) (started : os.Started) (H : Type) (enc : TypeId × Value -> H) :
    ReturnsInHanded {} Tryz.checked os 8 .any (fun w args=>(Rows.commandOneSpec.pre enc Tryz.checked.prog Tryz.f8 [] false w args/\laidMetH Tryz.prog wT w)/\sizedMet enc Tryz.checked.prog Tryz.f8 (OpenSpec.ofChange Rows.commandOneSpec) false w args) (Rows.commandOneSpec.post enc Tryz.checked.prog Tryz.f8 false true false false):=by
 refine UP #[ae7,.int .i64 0] started (by kernel_rfl) Tryz.func8 (by kernel_rfl) (by kernel_rfl) (by kernel_rfl) (by kernel_rfl) (by kernel_rfl) ?_;intro W base args ds gs before hval hW hG;have U1:=hW;obtain⟨p,q,hA,hV,rfl,_,_⟩:=hW;rw[Tryz.params8]at hA hval;obtain⟨v0,vs0,d0,oC,p0,q0,ha,rfl,rfl,h0,hA⟩:=trodAll_cons hA;obtain⟨v1,vs1,d1,Cq,p1,q1,rfl,rfl,rfl,h1,hA⟩:=trodAll_cons hA;obtain⟨rfl,rfl,rfl⟩:=trodAll_nil hA;obtain⟨rfl,rfl⟩:=trodVars_none hV;obtain rfl:args = #[v0,v1]:=by rw[<-Array.toList_inj,ha]
 obtain⟨c0,U2,pF⟩:=aa3 (hval 0 47 v0 rfl rfl) h0;obtain⟨n1,rfl,rfl,rfl,wn1⟩:=open_int Tryz.underlying3 (hval 1 3 v1 rfl rfl) h1;have hn1:jG n1:=by simpa[jG,Lit.wf,IntKind.min,IntKind.max,IntKind.signed,IntKind.bits]using wn1
 exact vC (NX c0 n1 U2 hn1) U1 hG kids full (by rw[Tryz.params8];decide) rfl rfl Tryz.underlying4 rfl rfl (UQ pF (VR.int _ n1))
def TV: Rows.commandOneRow.wf (OpenSpec.ofChange Rows.commandOneSpec)=true:=by kernel_rfl
def TX: namedTie Tryz.checked.prog Rows.commandOneRow.named Rows.commandOneSpec.vars=true:=by kernel_rfl
def TY: (Rows.commandOneRow.inPlace==Tryz.checked.prog.inPlace 8)=true:=by kernel_rfl
def TZ: (Rows.commandOneRow.unfollowed==Tryz.checked.prog.unfollowed 8)=true:=by kernel_rfl
def T0: (Rows.commandOneRow.recurses==Tryz.checked.prog.recurses 8)=true:=by kernel_rfl
def T1: (Rows.commandOneRow.named==Tryz.checked.prog.varsNamed 8)=true:=by kernel_rfl
def T2: (Rows.commandOneRow.plainKeys==Tryz.checked.prog.plainKeys)=true:=by kernel_rfl
def T3: (Rows.commandOneRow.lifted==Tryz.checked.prog.liftsFinal)=true:=by kernel_rfl
def Mx: joinedFacts Tryz.checked.prog 8 Tryz.f8 Rows.commandOneSpec Rows.commandOneRow=true:=by
 unfold joinedFacts;rw[TV,TX,TY,TZ,T0,T1,T2,T3,Md,Me,G2,G3];kernel_rfl
def Rn: Rows.CommandOneSaid :=
 OpenClaim.holds_of_wide 8 Tryz.f8 rfl rfl rfl rfl rfl rfl rfl ⟨rfl,rfl,rfl,rfl,rfl⟩ rfl rfl rfl rfl rfl (by kernel_rfl) Tryz.func8 Mx
  (of_decide_eq_true (by kernel_rfl)) (by unfold Func.isWrapper;first|(rw[if_pos (by decide +kernel)];kernel_rfl)|(rw[if_neg (by decide +kernel)];exact⟨rfl,rfl⟩))
  (fun os started H enc _=>Mw os started H enc)
theorem commandOne_holds: Rows.CommandOneCardSaid :=
 Claim7.holds_tied_plain_at .later [] [.data, .data, .data] true (true, "7fd39b441e49197c36bddc88708feb7a5eab2a27fa32c29dc58c64db58688971") false
  Rn (fun _ h=>by cases h) (by kernel_rfl) (fun _ h=>by cases h) commandOne_row_tie rfl ⟨rfl,rfl⟩ (by kernel_rfl) rfl
  (fun f fn hf hfn => by
    obtain rfl : f = 8 := Option.some.inj ((show Tryz.prog.funcNamed "decretal/decretallaw27.CommandOne" = some 8 by kernel_rfl).symm.trans hf) |>.symm
    obtain rfl:fn=Tryz.f8:=(Option.some.inj (Tryz.func8.symm.trans hfn)).symm
    exact⟨by kernel_rfl,fun j t ht=>by
     rw[Tryz.params8]at ht
     have h3:Tryz.prog.wantsStandIn t=false:=by
      rcases j with _|_|j
      ·obtain rfl:47=t:=by simpa using ht
       kernel_rfl
      ·obtain rfl:3=t:=by simpa using ht
       kernel_rfl
      ·simp at ht
     exact h3⟩)
  (by kernel_rfl)
end Go.Proofs.YtmbgnaoilncbnaaGreatDoor
