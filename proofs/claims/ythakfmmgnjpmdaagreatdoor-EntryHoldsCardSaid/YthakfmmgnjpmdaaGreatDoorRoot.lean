/- PROVED HERE: decretallaw21.EntryHolds returns true, whatever the input; the input reads as it did. No conditions but the card's own: the listed variables hold what the program's text lays. -/
import Derived.Test.YthakfmmgnjpmdaaGreatDoorW41
import Derived.Test.YthakfmmgnjpmdaaGreatDoorTie
import Derived.Test.YthakfmmgnjpmdaaGreatDoorCards
import Derived.SevenTiedAt
set_option linter.all false
namespace Go.Proofs.YthakfmmgnjpmdaaGreatDoor
open Go.AM Go.ChangeShapes Go.WideShapes Go.ChangeAt Go.RowKit
set_option maxRecDepth 100000 in
def FI (os : Os) (started : os.Started) (H : Type) (enc : TypeId × Value -> H) :
    ReturnsInHanded {} Tryz.checked os 3 .any (fun w args=>(Rows.entryHoldsSpec.pre enc Tryz.checked.prog Tryz.f3 [] false w args/\laidMetH Tryz.prog yV w)/\sizedMet enc Tryz.checked.prog Tryz.f3 (OpenSpec.ofChange Rows.entryHoldsSpec) false w args) (Rows.entryHoldsSpec.post enc Tryz.checked.prog Tryz.f3 false true false false):=by
 refine afX #[adZ,.int .i64 0,.slice none 0 0,afY] started (by kernel_rfl) Tryz.func3 (by kernel_rfl) (by kernel_rfl) (by kernel_rfl) (by kernel_rfl) (by kernel_rfl) ?_;intro W base args ds gs before hval hW uJ hG;have hW':=hW;obtain⟨p,q,hA,hV,rfl,_,_⟩:=hW;rw[Tryz.params3]at hA hval uJ;obtain⟨v0,vs0,d0,sR,p0,q0,ha,rfl,rfl,h0,hA⟩:=trodAll_cons hA;obtain⟨v1,vs1,d1,St,p1,q1,rfl,rfl,rfl,h1,hA⟩:=trodAll_cons hA;obtain⟨v2,vs2,d2,ds2,p2,q2,rfl,rfl,rfl,h2,hA⟩:=trodAll_cons hA;obtain⟨v3,vs3,d3,ds3,p3,q3,rfl,rfl,rfl,h3,hA⟩:=trodAll_cons hA;obtain⟨rfl,rfl,rfl⟩:=trodAll_nil hA;obtain⟨rfl,rfl⟩:=trodVars_none hV;obtain rfl:args = #[v0,v1,v2,v3]:=by rw[<-Array.toList_inj,ha]
 simp only[bt,cz,bB,DataW.weightsEach,List.all_append,aj]at uJ;obtain⟨t0,hr0,kH⟩:=Zm (hval 0 27 v0 rfl rfl) h0;obtain⟨n1,rfl,rfl,rfl,wn1⟩:=open_int Tryz.underlying3 (hval 1 3 v1 rfl rfl) h1;have hn1:p8 n1:=by simpa[p8,Lit.wf,IntKind.min,IntKind.max,IntKind.signed,IntKind.bits]using wn1
 obtain⟨a2,sS,HT⟩:=ad0 (hval 2 28 v2 rfl rfl) h2;obtain⟨a3,hr3,hv3⟩:=acn (hval 3 33 v3 rfl rfl) h3 uJ.2.2.2.1;exact M0 (Gz t0 n1 a2 a3 hr0 hn1 sS hr3) hW' hG kids full (by rw[Tryz.params3];decide) rfl rfl Tryz.underlying4 rfl rfl (afZ kH (VR.int _ n1) HT hv3)
def M1: Rows.entryHoldsRow.wf (OpenSpec.ofChange Rows.entryHoldsSpec)=true:=by kernel_rfl
def M3: namedTie Tryz.checked.prog Rows.entryHoldsRow.named Rows.entryHoldsSpec.vars=true:=by kernel_rfl
def M5: (Rows.entryHoldsRow.inPlace==Tryz.checked.prog.inPlace 3)=true:=by kernel_rfl
def M6: (Rows.entryHoldsRow.unfollowed==Tryz.checked.prog.unfollowed 3)=true:=by kernel_rfl
def M7: (Rows.entryHoldsRow.recurses==Tryz.checked.prog.recurses 3)=true:=by kernel_rfl
def M8: (Rows.entryHoldsRow.named==Tryz.checked.prog.varsNamed 3)=true:=by kernel_rfl
def M9: (Rows.entryHoldsRow.plainKeys==Tryz.checked.prog.plainKeys)=true:=by kernel_rfl
def M_: (Rows.entryHoldsRow.lifted==Tryz.checked.prog.liftsFinal)=true:=by kernel_rfl
def FJ: joinedFacts Tryz.checked.prog 3 Tryz.f3 Rows.entryHoldsSpec Rows.entryHoldsRow=true:=by
 unfold joinedFacts;rw[M1,M3,M5,M6,M7,M8,M9,M_,aco,acp,Zn,Zo];kernel_rfl
def JY: Rows.EntryHoldsSaid :=
 OpenClaim.holds_of_wide 3 Tryz.f3 rfl rfl rfl rfl rfl rfl rfl ⟨rfl,rfl,rfl,rfl,rfl⟩ rfl rfl rfl rfl rfl (by kernel_rfl) Tryz.func3 FJ
  (of_decide_eq_true (by kernel_rfl)) (by unfold Func.isWrapper;first|(rw[if_pos (by decide +kernel)];kernel_rfl)|(rw[if_neg (by decide +kernel)];exact⟨rfl,rfl⟩))
  (fun os started H enc _=>FI os started H enc)
theorem entryHolds_holds: Rows.EntryHoldsCardSaid :=
 Claim7.holds_tied_plain_at .later [] [.data, .data, .data] true (true, "5bc304f4cc35326b708a53525c6fbdfca51bb6adaeb48e9efbe4351db5096d61") true
  JY (fun _ h=>by cases h) (by kernel_rfl) (fun _ h=>by cases h) entryHolds_row_tie rfl ⟨rfl,rfl⟩ (by kernel_rfl) rfl
  (fun f fn hf hfn => by
    obtain rfl : f = 3 := Option.some.inj ((show Tryz.prog.funcNamed "decretal/decretallaw21.EntryHolds" = some 3 by kernel_rfl).symm.trans hf) |>.symm
    obtain rfl:fn=Tryz.f3:=(Option.some.inj (Tryz.func3.symm.trans hfn)).symm
    exact⟨by kernel_rfl,fun j t ht=>by
     rw[Tryz.params3]at ht
     have h3:Tryz.prog.wantsStandIn t=false:=by
      rcases j with _|_|_|_|j
      ·obtain rfl:27=t:=by simpa using ht
       kernel_rfl
      ·obtain rfl:3=t:=by simpa using ht
       kernel_rfl
      ·obtain rfl:28=t:=by simpa using ht
       kernel_rfl
      ·obtain rfl:33=t:=by simpa using ht
       kernel_rfl
      ·simp at ht
     exact h3⟩)
  (T7 _ Ww _ rfl)
