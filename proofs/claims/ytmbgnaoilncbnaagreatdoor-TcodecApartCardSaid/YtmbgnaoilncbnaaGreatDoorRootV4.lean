/- PROVED HERE: decretallaw19.TcodecApart returns true, whatever the input; the input reads as it did. No conditions but the card's own: the listed variables hold what the program's text lays. -/
import Derived.Test.YtmbgnaoilncbnaaGreatDoorZ38
import Derived.Test.YtmbgnaoilncbnaaGreatDoorTie
import Derived.Test.YtmbgnaoilncbnaaGreatDoorCards
import Derived.SevenTiedAt
set_option linter.unnecessarySimpa false
set_option linter.unusedSimpArgs false
set_option linter.unusedVariables false
namespace Go.Proofs.YtmbgnaoilncbnaaGreatDoor
open Go.AM Go.ChangeShapes Go.WideShapes Go.ChangeAt Go.RowKit
set_option maxRecDepth 100000 in
theorem F4(os:Os)(started:os.Started)(H:Type)(enc:TypeId × Value→H):
 ReturnsInHanded {} Tryz.checked os 6 .any (fun w args=>(Rows.tcodecApartSpec.pre enc Tryz.checked.prog Tryz.f6 [] false w args∧laidMetH Tryz.prog tD w)∧sizedMet enc Tryz.checked.prog Tryz.f6 (OpenSpec.ofChange Rows.tcodecApartSpec) false w args) (Rows.tcodecApartSpec.post enc Tryz.checked.prog Tryz.f6 false true false false):=by
 refine Qy #[KR,KR] started (by kernel_rfl) Tryz.func6 (by kernel_rfl) (by kernel_rfl) (by kernel_rfl) (by kernel_rfl) (by kernel_rfl) ?_
 intro W base args ds gs before hval hW hG
 have QG:=hW
 obtain⟨p,q,hA,hV,rfl,_,_⟩:=hW
 rw[Tryz.params6]at hA hval
 obtain⟨v0,vs0,d0,lT,p0,q0,ha,rfl,rfl,h0,hA⟩:=trodAll_cons hA
 obtain⟨v1,vs1,d1,Cq,p1,q1,rfl,rfl,rfl,h1,hA⟩:=trodAll_cons hA
 obtain⟨rfl,rfl,rfl⟩:=trodAll_nil hA
 obtain⟨rfl,rfl⟩:=trodVars_none hV
 obtain rfl:args = #[v0,v1]:=by rw[← Array.toList_inj,ha]
 obtain⟨t0,WR,nR⟩:=Du (hval 0 27 v0 rfl rfl) h0
 obtain⟨t1,hr1,Om⟩:=Du (hval 1 27 v1 rfl rfl) h1
 exact rY (IV t0 t1 WR hr1) QG hG kids full (by rw[Tryz.params6];decide) rfl rfl Tryz.underlying4 rfl rfl (ZZ nR Om)
theorem M9: Rows.tcodecApartRow.wf (OpenSpec.ofChange Rows.tcodecApartSpec)=true:=by kernel_rfl
theorem M_: namedTie Tryz.checked.prog Rows.tcodecApartRow.named Rows.tcodecApartSpec.vars=true:=by kernel_rfl
theorem Na: (Rows.tcodecApartRow.inPlace==Tryz.checked.prog.inPlace 6)=true:=by kernel_rfl
theorem Nb: (Rows.tcodecApartRow.unfollowed==Tryz.checked.prog.unfollowed 6)=true:=by kernel_rfl
theorem Nc: (Rows.tcodecApartRow.recurses==Tryz.checked.prog.recurses 6)=true:=by kernel_rfl
theorem Nd: (Rows.tcodecApartRow.named==Tryz.checked.prog.varsNamed 6)=true:=by kernel_rfl
theorem Nf: (Rows.tcodecApartRow.plainKeys==Tryz.checked.prog.plainKeys)=true:=by kernel_rfl
theorem Ng: (Rows.tcodecApartRow.lifted==Tryz.checked.prog.liftsFinal)=true:=by kernel_rfl
theorem F5: joinedFacts Tryz.checked.prog 6 Tryz.f6 Rows.tcodecApartSpec Rows.tcodecApartRow=true:=by
 unfold joinedFacts
 rw[M9,M_,Na,Nb,Nc,Nd,Nf,Ng,Io,Ip,Dv,Dw]
 kernel_rfl
theorem K2: Rows.TcodecApartSaid :=
 OpenClaim.holds_of_wide 6 Tryz.f6 rfl rfl rfl rfl rfl rfl rfl ⟨rfl,rfl,rfl,rfl,rfl⟩ rfl rfl rfl rfl rfl (by kernel_rfl) Tryz.func6 F5
  (of_decide_eq_true (by kernel_rfl)) (by unfold Func.isWrapper;first|(rw[if_pos (by decide +kernel)];kernel_rfl)|(rw[if_neg (by decide +kernel)];exact⟨rfl,rfl⟩))
  (fun os started H enc _=>F4 os started H enc)
theorem tcodecApart_holds: Rows.TcodecApartCardSaid :=
 Claim7.holds_tied_plain_at .later [] [.data, .data, .data] true (true, "7fd39b441e49197c36bddc88708feb7a5eab2a27fa32c29dc58c64db58688971") false
  K2 (fun _ h=>by cases h) (by kernel_rfl) (fun _ h=>by cases h) tcodecApart_row_tie rfl ⟨rfl,rfl⟩ (by kernel_rfl) rfl
  (fun f fn hf hfn => by
    obtain rfl : f = 6 := Option.some.inj ((show Tryz.prog.funcNamed "decretal/decretallaw19.TcodecApart" = some 6 by kernel_rfl).symm.trans hf) |>.symm
    obtain rfl:fn=Tryz.f6:=(Option.some.inj (Tryz.func6.symm.trans hfn)).symm
    exact⟨by kernel_rfl,fun j t ht=>by
     rw[Tryz.params6]at ht
     have h3:Tryz.prog.wantsStandIn t=false:=by
      rcases j with _|_|j
      ·obtain rfl:27=t:=by simpa using ht
       kernel_rfl
      ·obtain rfl:27=t:=by simpa using ht
       kernel_rfl
      ·simp at ht
     exact h3⟩)
  (by kernel_rfl)
end Go.Proofs.YtmbgnaoilncbnaaGreatDoor
