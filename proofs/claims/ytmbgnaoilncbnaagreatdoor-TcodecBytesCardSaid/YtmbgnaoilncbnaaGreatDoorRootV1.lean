/- PROVED HERE: decretallaw19.TcodecBytes returns true, whatever the input; the input reads as it did. No conditions but the card's own: the listed variables hold what the program's text lays. -/
import Derived.Test.YtmbgnaoilncbnaaGreatDoorZ38
import Derived.Test.YtmbgnaoilncbnaaGreatDoorTie
import Derived.Test.YtmbgnaoilncbnaaGreatDoorCards
import Derived.SevenTiedAt
set_option linter.unnecessarySimpa false
set_option linter.unusedSimpArgs false
set_option linter.unusedVariables false
namespace Go.Proofs.YtmbgnaoilncbnaaGreatDoor
open Go.AM Go.ChangeShapes Go.WideShapes Go.ChangeAt Go.RowKit
set_option maxRecDepth 100000 in
theorem F1(os:Os)(started:os.Started)(H:Type)(enc:TypeId × Value→H):
 ReturnsInHanded {} Tryz.checked os 3 .any (fun w args=>(Rows.tcodecBytesSpec.pre enc Tryz.checked.prog Tryz.f3 [] false w args∧laidMetH Tryz.prog tD w)∧sizedMet enc Tryz.checked.prog Tryz.f3 (OpenSpec.ofChange Rows.tcodecBytesSpec) false w args) (Rows.tcodecBytesSpec.post enc Tryz.checked.prog Tryz.f3 false true false false):=by
 refine Qy #[KR] started (by kernel_rfl) Tryz.func3 (by kernel_rfl) (by kernel_rfl) (by kernel_rfl) (by kernel_rfl) (by kernel_rfl) ?_
 intro W base args ds gs before hval hW hG
 have QG:=hW
 obtain⟨p,q,hA,hV,rfl,_,_⟩:=hW
 rw[Tryz.params3]at hA hval
 obtain⟨v0,vs0,d0,lT,p0,q0,ha,rfl,rfl,h0,hA⟩:=trodAll_cons hA
 obtain⟨rfl,rfl,rfl⟩:=trodAll_nil hA
 obtain⟨rfl,rfl⟩:=trodVars_none hV
 obtain rfl:args = #[v0]:=by rw[← Array.toList_inj,ha]
 obtain⟨t0,WR,nR⟩:=Du (hval 0 27 v0 rfl rfl) h0
 exact rY (IP t0 WR) QG hG kids full (by rw[Tryz.params3];decide) rfl rfl Tryz.underlying4 rfl rfl (ZY nR)
theorem MZ: Rows.tcodecBytesRow.wf (OpenSpec.ofChange Rows.tcodecBytesSpec)=true:=by kernel_rfl
theorem M0: namedTie Tryz.checked.prog Rows.tcodecBytesRow.named Rows.tcodecBytesSpec.vars=true:=by kernel_rfl
theorem M1: (Rows.tcodecBytesRow.inPlace==Tryz.checked.prog.inPlace 3)=true:=by kernel_rfl
theorem M3: (Rows.tcodecBytesRow.unfollowed==Tryz.checked.prog.unfollowed 3)=true:=by kernel_rfl
theorem M4: (Rows.tcodecBytesRow.recurses==Tryz.checked.prog.recurses 3)=true:=by kernel_rfl
theorem M5: (Rows.tcodecBytesRow.named==Tryz.checked.prog.varsNamed 3)=true:=by kernel_rfl
theorem M6: (Rows.tcodecBytesRow.plainKeys==Tryz.checked.prog.plainKeys)=true:=by kernel_rfl
theorem M7: (Rows.tcodecBytesRow.lifted==Tryz.checked.prog.liftsFinal)=true:=by kernel_rfl
theorem F2: joinedFacts Tryz.checked.prog 3 Tryz.f3 Rows.tcodecBytesSpec Rows.tcodecBytesRow=true:=by
 unfold joinedFacts
 rw[MZ,M0,M1,M3,M4,M5,M6,M7,Io,Ip,Dv,Dw]
 kernel_rfl
theorem KS: Rows.TcodecBytesSaid :=
 OpenClaim.holds_of_wide 3 Tryz.f3 rfl rfl rfl rfl rfl rfl rfl ⟨rfl,rfl,rfl,rfl,rfl⟩ rfl rfl rfl rfl rfl (by kernel_rfl) Tryz.func3 F2
  (of_decide_eq_true (by kernel_rfl)) (by unfold Func.isWrapper;first|(rw[if_pos (by decide +kernel)];kernel_rfl)|(rw[if_neg (by decide +kernel)];exact⟨rfl,rfl⟩))
  (fun os started H enc _=>F1 os started H enc)
theorem tcodecBytes_holds: Rows.TcodecBytesCardSaid :=
 Claim7.holds_tied_plain_at .later [] [.data, .data, .data] true (true, "7fd39b441e49197c36bddc88708feb7a5eab2a27fa32c29dc58c64db58688971") false
  KS (fun _ h=>by cases h) (by kernel_rfl) (fun _ h=>by cases h) tcodecBytes_row_tie rfl ⟨rfl,rfl⟩ (by kernel_rfl) rfl
  (fun f fn hf hfn => by
    obtain rfl : f = 3 := Option.some.inj ((show Tryz.prog.funcNamed "decretal/decretallaw19.TcodecBytes" = some 3 by kernel_rfl).symm.trans hf) |>.symm
    obtain rfl:fn=Tryz.f3:=(Option.some.inj (Tryz.func3.symm.trans hfn)).symm
    exact⟨by kernel_rfl,fun j t ht=>by
     rw[Tryz.params3]at ht
     have h3:Tryz.prog.wantsStandIn t=false:=by
      rcases j with _|j
      ·obtain rfl:27=t:=by simpa using ht
       kernel_rfl
      ·simp at ht
     exact h3⟩)
  (by kernel_rfl)
end Go.Proofs.YtmbgnaoilncbnaaGreatDoor
