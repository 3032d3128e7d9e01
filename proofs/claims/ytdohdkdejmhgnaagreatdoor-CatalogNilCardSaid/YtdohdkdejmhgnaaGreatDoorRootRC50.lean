/- PROVED HERE: decretallaw23.CatalogNil returns true, whatever the input; the input reads as it did. No conditions but the card's own: the listed variables hold what the program's text lays. -/
import Derived.Test.YtdohdkdejmhgnaaGreatDoorY15
import Derived.Test.YtdohdkdejmhgnaaGreatDoorTie
import Derived.Test.YtdohdkdejmhgnaaGreatDoorCards
import Derived.SevenTiedAt
set_option linter.all false
namespace Go.Proofs.YtdohdkdejmhgnaaGreatDoor
open Go.AM Go.ChangeShapes Go.WideShapes Go.ChangeAt Go.RowKit
set_option maxRecDepth 100000 in
def F7 (os : Os) (started : os.Started) (H : Type) (enc : TypeId × Value -> H) :
    ReturnsInHanded {} Tryz.checked os 4 .any (fun w args=>(Rows.catalogNilSpec.pre enc Tryz.checked.prog Tryz.f4 [] false w args/\laidMetH Tryz.prog yn w)/\sizedMet enc Tryz.checked.prog Tryz.f4 (OpenSpec.ofChange Rows.catalogNilSpec) false w args) (Rows.catalogNilSpec.post enc Tryz.checked.prog Tryz.f4 false true false false):=by
 refine ah_ #[ada,.string ByteArray.empty,.int .i64 0] started (by kernel_rfl) Tryz.func4 (by kernel_rfl) (by kernel_rfl) (by kernel_rfl) (by kernel_rfl) (by kernel_rfl) ?_;intro W base args ds gs before hval hW hG;have hW':=hW;obtain⟨p,q,hA,hV,rfl,_,_⟩:=hW;rw[Tryz.params4]at hA hval;obtain⟨v0,vs0,d0,pg,p0,q0,ha,rfl,rfl,h0,hA⟩:=trodAll_cons hA;obtain⟨v1,vs1,d1,RM,p1,q1,rfl,rfl,rfl,h1,hA⟩:=trodAll_cons hA;obtain⟨v2,vs2,d2,ds2,p2,q2,rfl,rfl,rfl,h2,hA⟩:=trodAll_cons hA;obtain⟨rfl,rfl,rfl⟩:=trodAll_nil hA;obtain⟨rfl,rfl⟩:=trodVars_none hV;obtain rfl:args = #[v0,v1,v2]:=by rw[<-Array.toList_inj,ha]
 obtain⟨t0,hr0,mz⟩:=Yo (hval 0 56 v0 rfl rfl) h0;obtain⟨s1,rfl,rfl,rfl,_⟩:=ChangeMaps.open_string Tryz.underlying9 (hval 1 9 v1 rfl rfl) h1;obtain⟨n2,rfl,rfl,rfl,wn2⟩:=open_int Tryz.underlying3 (hval 2 3 v2 rfl rfl) h2;have hn2:rE n2:=by simpa[rE,Lit.wf,IntKind.min,IntKind.max,IntKind.signed,IntKind.bits]using wn2
 exact M6 (G5 t0 s1.data.toList n2 hr0 hn2) hW' hG kids full (by rw[Tryz.params4];decide) rfl rfl Tryz.underlying4 rfl rfl (aia mz (VR.string s1) (VR.int _ n2))
def M7: Rows.catalogNilRow.wf (OpenSpec.ofChange Rows.catalogNilSpec)=true:=by kernel_rfl
def M8: namedTie Tryz.checked.prog Rows.catalogNilRow.named Rows.catalogNilSpec.vars=true:=by kernel_rfl
def M9: (Rows.catalogNilRow.inPlace==Tryz.checked.prog.inPlace 4)=true:=by kernel_rfl
def M_: (Rows.catalogNilRow.unfollowed==Tryz.checked.prog.unfollowed 4)=true:=by kernel_rfl
def Na: (Rows.catalogNilRow.recurses==Tryz.checked.prog.recurses 4)=true:=by kernel_rfl
def Nb: (Rows.catalogNilRow.named==Tryz.checked.prog.varsNamed 4)=true:=by kernel_rfl
def Nc: (Rows.catalogNilRow.plainKeys==Tryz.checked.prog.plainKeys)=true:=by kernel_rfl
def Nd: (Rows.catalogNilRow.lifted==Tryz.checked.prog.liftsFinal)=true:=by kernel_rfl
def F8: joinedFacts Tryz.checked.prog 4 Tryz.f4 Rows.catalogNilSpec Rows.catalogNilRow=true:=by
 unfold joinedFacts;rw[M7,M8,M9,M_,Na,Nb,Nc,Nd,abl,abm,Yp,Yq];kernel_rfl
def J8: Rows.CatalogNilSaid :=
 OpenClaim.holds_of_wide 4 Tryz.f4 rfl rfl rfl rfl rfl rfl rfl ⟨rfl,rfl,rfl,rfl,rfl⟩ rfl rfl rfl rfl rfl (by kernel_rfl) Tryz.func4 F8
  (of_decide_eq_true (by kernel_rfl)) (by unfold Func.isWrapper;first|(rw[if_pos (by decide +kernel)];kernel_rfl)|(rw[if_neg (by decide +kernel)];exact⟨rfl,rfl⟩))
  (fun os started H enc _=>F7 os started H enc)
theorem catalogNil_holds: Rows.CatalogNilCardSaid :=
 Claim7.holds_tied_plain_at .later [] [.data, .data, .data, .data, .pinned] true (true, "76c04b6cf0bb51fe25ee91794cbeed9c3a0476353e9c7917dd31770be04f3e5b") true
  J8 (fun _ h=>by cases h) (by kernel_rfl) (fun _ h=>by cases h) catalogNil_row_tie rfl ⟨rfl,rfl⟩ (by kernel_rfl) rfl
  (fun f fn hf hfn => by
    obtain rfl : f = 4 := Option.some.inj ((show Tryz.prog.funcNamed "decretal/decretallaw23.CatalogNil" = some 4 by kernel_rfl).symm.trans hf) |>.symm
    obtain rfl:fn=Tryz.f4:=(Option.some.inj (Tryz.func4.symm.trans hfn)).symm
    exact⟨by kernel_rfl,fun j t ht=>by
     rw[Tryz.params4]at ht
     have h3:Tryz.prog.wantsStandIn t=false:=by
      rcases j with _|_|_|j
      ·obtain rfl:56=t:=by simpa using ht
       kernel_rfl
      ·obtain rfl:9=t:=by simpa using ht
       kernel_rfl
      ·obtain rfl:3=t:=by simpa using ht
       kernel_rfl
      simp at ht
     exact h3⟩)
  (S8 _ Vo _ rfl)
