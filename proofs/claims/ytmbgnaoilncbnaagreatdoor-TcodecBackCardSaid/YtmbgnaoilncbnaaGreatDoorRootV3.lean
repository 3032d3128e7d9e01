/- PROVED HERE: decretallaw19.TcodecBack returns true, whatever the input; the input reads as it did. No conditions but the card's own: the listed variables hold what the program's text lays. -/
import Derived.Test.YtmbgnaoilncbnaaGreatDoorZ38
import Derived.Test.YtmbgnaoilncbnaaGreatDoorTie
import Derived.Test.YtmbgnaoilncbnaaGreatDoorCards
import Derived.SevenTiedAt
set_option linter.unnecessarySimpa false
set_option linter.unusedSimpArgs false
set_option linter.unusedVariables false
namespace Go.Proofs.YtmbgnaoilncbnaaGreatDoor
open Go.AM Go.ChangeShapes Go.WideShapes Go.ChangeAt Go.RowKit
set_option maxRecDepth 100000 in
theorem IQ(os:Os)(started:os.Started)(H:Type)(enc:TypeId × Value→H):
 ReturnsInHanded {} Tryz.checked os 5 .any (fun w args=>(Rows.tcodecBackSpec.pre enc Tryz.checked.prog Tryz.f5 [] false w args∧laidMetH Tryz.prog tD w)∧sizedMet enc Tryz.checked.prog Tryz.f5 (OpenSpec.ofChange Rows.tcodecBackSpec) false w args) (Rows.tcodecBackSpec.post enc Tryz.checked.prog Tryz.f5 false true false false):=by
 refine Qy #[KR,.string ByteArray.empty] started (by kernel_rfl) Tryz.func5 (by kernel_rfl) (by kernel_rfl) (by kernel_rfl) (by kernel_rfl) (by kernel_rfl) ?_
 intro W base args ds gs before hval hW hG
 have QG:=hW
 obtain⟨p,q,hA,hV,rfl,_,_⟩:=hW
 rw[Tryz.params5]at hA hval
 obtain⟨v0,vs0,d0,lT,p0,q0,ha,rfl,rfl,h0,hA⟩:=trodAll_cons hA
 obtain⟨v1,vs1,d1,Cq,p1,q1,rfl,rfl,rfl,h1,hA⟩:=trodAll_cons hA
 obtain⟨rfl,rfl,rfl⟩:=trodAll_nil hA
 obtain⟨rfl,rfl⟩:=trodVars_none hV
 obtain rfl:args = #[v0,v1]:=by rw[← Array.toList_inj,ha]
 obtain⟨t0,WR,nR⟩:=Du (hval 0 27 v0 rfl rfl) h0
 obtain⟨s1,rfl,rfl,rfl,_⟩:=ChangeMaps.open_string Tryz.underlying9 (hval 1 9 v1 rfl rfl) h1
 exact rY (JV t0 s1.data.toList WR) QG hG kids full (by rw[Tryz.params5];decide) rfl rfl Tryz.underlying4 rfl rfl (ZZ nR (VR.string s1))
theorem Py: Rows.tcodecBackRow.wf (OpenSpec.ofChange Rows.tcodecBackSpec)=true:=by kernel_rfl
theorem Pz: namedTie Tryz.checked.prog Rows.tcodecBackRow.named Rows.tcodecBackSpec.vars=true:=by kernel_rfl
theorem PA: (Rows.tcodecBackRow.inPlace==Tryz.checked.prog.inPlace 5)=true:=by kernel_rfl
theorem PC: (Rows.tcodecBackRow.unfollowed==Tryz.checked.prog.unfollowed 5)=true:=by kernel_rfl
theorem PD: (Rows.tcodecBackRow.recurses==Tryz.checked.prog.recurses 5)=true:=by kernel_rfl
theorem PE: (Rows.tcodecBackRow.named==Tryz.checked.prog.varsNamed 5)=true:=by kernel_rfl
theorem PG: (Rows.tcodecBackRow.plainKeys==Tryz.checked.prog.plainKeys)=true:=by kernel_rfl
theorem PI: (Rows.tcodecBackRow.lifted==Tryz.checked.prog.liftsFinal)=true:=by kernel_rfl
theorem IU: joinedFacts Tryz.checked.prog 5 Tryz.f5 Rows.tcodecBackSpec Rows.tcodecBackRow=true:=by
 unfold joinedFacts
 rw[Py,Pz,PA,PC,PD,PE,PG,PI,Io,Ip,Dv,Dw]
 kernel_rfl
theorem M8: Rows.TcodecBackSaid :=
 OpenClaim.holds_of_wide 5 Tryz.f5 rfl rfl rfl rfl rfl rfl rfl ⟨rfl,rfl,rfl,rfl,rfl⟩ rfl rfl rfl rfl rfl (by kernel_rfl) Tryz.func5 IU
  (of_decide_eq_true (by kernel_rfl)) (by unfold Func.isWrapper;first|(rw[if_pos (by decide +kernel)];kernel_rfl)|(rw[if_neg (by decide +kernel)];exact⟨rfl,rfl⟩))
  (fun os started H enc _=>IQ os started H enc)
theorem tcodecBack_holds: Rows.TcodecBackCardSaid :=
 Claim7.holds_tied_plain_at .later [] [.data, .data, .data] true (true, "7fd39b441e49197c36bddc88708feb7a5eab2a27fa32c29dc58c64db58688971") false
  M8 (fun _ h=>by cases h) (by kernel_rfl) (fun _ h=>by cases h) tcodecBack_row_tie rfl ⟨rfl,rfl⟩ (by kernel_rfl) rfl
  (fun f fn hf hfn => by
    obtain rfl : f = 5 := Option.some.inj ((show Tryz.prog.funcNamed "decretal/decretallaw19.TcodecBack" = some 5 by kernel_rfl).symm.trans hf) |>.symm
    obtain rfl:fn=Tryz.f5:=(Option.some.inj (Tryz.func5.symm.trans hfn)).symm
    exact⟨by kernel_rfl,fun j t ht=>by
     rw[Tryz.params5]at ht
     have h3:Tryz.prog.wantsStandIn t=false:=by
      rcases j with _|_|j
      ·obtain rfl:27=t:=by simpa using ht
       kernel_rfl
      ·obtain rfl:9=t:=by simpa using ht
       kernel_rfl
      ·simp at ht
     exact h3⟩)
  (by kernel_rfl)
end Go.Proofs.YtmbgnaoilncbnaaGreatDoor
