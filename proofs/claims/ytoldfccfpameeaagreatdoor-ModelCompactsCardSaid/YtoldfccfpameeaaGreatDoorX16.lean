/- Part. -/
import Derived.Test.YtoldfccfpameeaaGreatDoorX15
import Derived.Shelf.SlIter.Nil
import Derived.Shelf.SortM.Plain
import Derived.Shelf.SortM.SortNone
import Derived.Ground.GgzProg
import Derived.Ground.SlgmProg
import Derived.Shelf.SlMaps.Clone
import Derived.Ground.SlmcProg
import Derived.Test.YtoldfccfpameeaaGreatDoorProg
import Derived.WalkKit
import Derived.ProofKit
import Derived.OpenShut
import Derived.ReadAgain
import Derived.Deep.SlicePairs
import Derived.Test.YtoldfccfpameeaaGreatDoorRows
import Derived.SevenTiedAt
import Derived.LaidLaws
import Derived.LaidHandle
import Derived.Lib.LaidTab
set_option linter.all false
set_option maxHeartbeats 4000000
namespace Go.Proofs
open Go.RowKit Go.Maps Go.Sort Go.Shelf
def Tryz.MV: Go.Shelf.Ren:=⟨fun|7=>49|10=>76|n=>n,fun|23=>77|26=>9|3=>86|28=>102|0=>0|27=>101|33=>85|4=>4|n=>n,fun|n=>n⟩
def Tryz.aja: Go.Proofs.SlLaysZ.n7 Tryz.prog Tryz.MV:=by
 constructor
 case f7=>exact⟨Tryz.f49.name,cW,Tryz.func49.trans (aW some fc)⟩
 case f10=>exact⟨Tryz.f76.name,cW,Tryz.func76.trans (aW some fc)⟩
 all_goals first|kernel_rfl|(intro w;kernel_rfl)
def Tryz.Hi: Go.Shelf.Ren:=⟨fun|6=>48|8=>74|9=>75|11=>116|13=>118|12=>117|23=>159|24=>160|14=>150|15=>151|16=>152|17=>153|18=>154|19=>155|20=>156|21=>157|22=>158|25=>201|26=>202|27=>203|28=>204|29=>205|30=>206|31=>245|n=>n,fun|26=>9|28=>102|24=>47|0=>0|3=>3|37=>155|48=>212|50=>175|4=>4|40=>245|39=>244|45=>249|5=>5|9=>9|51=>295|55=>299|57=>343|58=>344|33=>85|n=>n,fun|n=>n⟩
def Tryz.aeY: Go.Proofs.SlLaysZ.n6 Tryz.prog Tryz.Hi:=by
 constructor
 case f6=>exact⟨Tryz.f48.name,cW,Tryz.func48.trans (aW some fc)⟩
 case f8=>exact⟨Tryz.f74.name,cW,Tryz.func74.trans (aW some fc)⟩
 case f11=>exact⟨Tryz.f116.name,cW,Tryz.func116.trans (aW some fc)⟩
 all_goals first|kernel_rfl|(intro w;kernel_rfl)
def Tryz.ZL: Go.Shelf.Ren:=⟨fun|6=>75|8=>118|9=>117|19=>159|20=>160|21=>150|22=>151|23=>152|24=>153|25=>154|26=>155|27=>156|28=>157|29=>158|36=>201|31=>202|32=>203|37=>204|38=>205|39=>206|41=>245|n=>n,fun|27=>47|29=>9|3=>3|32=>155|26=>47|0=>0|44=>212|46=>175|4=>4|36=>245|35=>244|41=>249|5=>5|9=>9|53=>295|57=>299|63=>343|64=>344|n=>n,fun|n=>n⟩
def Tryz.ach: Go.Proofs.SlLaysM.n6 Tryz.prog Tryz.ZL:=by
 constructor
 case f6=>exact⟨Tryz.f75.name,cW,Tryz.func75.trans (aW some fc)⟩
 case f9=>exact⟨Tryz.f117.name,cW,Tryz.func117.trans (aW some fc)⟩
 case f21=>exact⟨Tryz.f150.name,cW,Tryz.func150.trans (aW some fc)⟩
 case f22=>exact⟨Tryz.f151.name,cW,Tryz.func151.trans (aW some fc)⟩
 case f23=>exact⟨Tryz.f152.name,cW,Tryz.func152.trans (aW some fc)⟩
 case f24=>exact⟨Tryz.f153.name,cW,Tryz.func153.trans (aW some fc)⟩
 case f25=>exact⟨Tryz.f154.name,cW,Tryz.func154.trans (aW some fc)⟩
 case f26=>exact⟨Tryz.f155.name,cW,Tryz.func155.trans (aW some fc)⟩
 case f27=>exact⟨Tryz.f156.name,cW,Tryz.func156.trans (aW some fc)⟩
 case f28=>exact⟨Tryz.f157.name,cW,Tryz.func157.trans (aW some fc)⟩
 case f29=>exact⟨Tryz.f158.name,cW,Tryz.func158.trans (aW some fc)⟩
 case f36=>exact⟨Tryz.f201.name,cW,Tryz.func201.trans (aW some fc)⟩
 case f37=>exact⟨Tryz.f204.name,cW,Tryz.func204.trans (aW some fc)⟩
 case f38=>exact⟨Tryz.f205.name,cW,Tryz.func205.trans (aW some fc)⟩
 case f39=>exact⟨Tryz.f206.name,cW,Tryz.func206.trans (aW some fc)⟩
 case f41=>exact⟨Tryz.f245.name,cW,Tryz.func245.trans (aW some fc)⟩
 all_goals first|kernel_rfl|(intro w;kernel_rfl)
def Tryz.ZM: Go.Shelf.Ren:=⟨fun|5=>43|7=>68|n=>n,fun|23=>77|25=>9|3=>86|4=>4|20=>20|n=>n,fun|n=>n⟩
def Tryz.ajb: Go.Proofs.SlLaysW.n5 Tryz.prog Tryz.ZM:=by
 constructor
 case f5=>exact⟨Tryz.f43.name,cW,Tryz.func43.trans (aW some fc)⟩
 all_goals first|kernel_rfl|(intro w;kernel_rfl)
def Tryz.ag3(m:Nat): AnyZ.SortsIn Tryz.prog Tryz.Hi Fence.wide m :=
 ⟨fun blk off cap ss W hH hblk hsz=>callsIn_wide.2 (AnyM.slices_Sort_string Tryz.ach blk off cap ss W hH hblk hsz),
 fun p cap W=>callsIn_wide.2 (AnyM.slices_Sort_string_none Tryz.ach p cap W)⟩
end Go.Proofs
namespace Go.Proofs.YtoldfccfpameeaaGreatDoor
open Go.AM Go.Maps Go.Sort
noncomputable def A6 (ks:List (List UInt8)):DataW Unit:= .map ((ks.map fun s=>(Lit.string s,DataW.lit (.bool true))).foldr DataW.insert [])
noncomputable def nu (ks:List (List UInt8)):List (List UInt8):=(strKeys (A6 ks)).mergeSort leB
noncomputable def MW:Value->Option (DataW Unit × List MemPlace):=fun _=>some (.lit (.bool true),[])
def Qj: ∀ {ks:List (List UInt8)},ks.Nodup->(ks.map encStr).Nodup
 | [],_=>List.nodup_nil
 | a :: l, h => by
   have h2:=List.nodup_cons.1 h;rw[bB,List.nodup_cons];refine⟨fun hm=>?_,Qj h2.2⟩;obtain⟨b,hb,e⟩:=cI.1 hm;rw[encStr_inj e]at hb;exact h2.1 hb
def Ol{vs:Array Value}(h:1=vs.size): vs = #[vs.getD 0 Go.undef]:=by
 apply Array.ext
 ·simp[<-h]
 intro i h1 h2;simp at h2;subst h2;simp[<-h]
def ajc{g:aN}{w:World}{s:List UInt8}{v:Value}(h:VR g w (.str s) v): v=encStr s:=by cases h;rfl
def Hj {S : ai} {k q : Nat} {es : List (AV × AV)} {ks : List (List UInt8)} (hk : S[k]? = some (.cells [.mp q])) (hq : S[q]? = some (.map es)) (he : es.map Prod.fst = ks.map AV.str)
    (hnd:ks.Nodup) (hn:ks.length<=1000000) (hl:∀ s ∈ ks,s.length<=1000000) :
    kq aH 48 [.fn (.func 76) [] [.ref k 0]] S (.aR false ⟨false,1⟩ ((nu ks).map AV.str)):=by
 refine⟨⟨_,Tryz.func48,fc,fc⟩,fun g w vs hR hlen hv=>?_⟩;have h0:=hv 0 aQ;rw[Ol (vs:=vs) (by simpa using hlen)];generalize vs.getD 0 Go.undef=v at h0;simp only[cH]at h0;cases h0;rename_i first' cap' Iz _ Tr hc;have hf:first' = #[]:=by apply fg;simpa using Iz.symm
 have hcp:=Ol (vs:=cap') (by simpa using Tr);have hc0:=hc 0 aQ;rw[hf,hcp];generalize cap'.getD 0 Go.undef=u at hc0;simp only[cH]at hc0;cases hc0;rename_i hr;obtain⟨_,A,rfl,hA⟩:=hr;obtain⟨Na,_,b,us,hb,hrow,Fw,hcell,_⟩:=hR.ok k _ hk;obtain⟨hA1,hA2⟩:=hA Na;rw[hb]at hA1;have hbA:b=A.block:=by injection hA1
 subst hbA;rw[hA2];have hm:=hcell 0 aQ;simp only[cH]at hm;obtain⟨T,fz,hwb,_⟩:=hrow;obtain⟨ZN,bm,ms,clock,WO,hwm,vA,⟨IN,akF⟩,hkv⟩:=hR.ok q _ hq
 have anh:us = #[.map (some bm)]:=by
  have h1:=Ol (vs:=us) (by simpa using Fw.symm);generalize us.getD 0 Go.undef=z at hm h1;cases hm;rename_i hmp;obtain⟨_,b2,rfl,iA⟩:=hmp;have:=iA ZN;rw[WO]at this;cases this;exact h1
 subst anh
 have hkey:∀ i,i<es.length->(ms.getD i default).key=encStr (ks.getD i []):=fun i hi=>by
  have h1:=(hkv i hi).1
  have h2:(es.getD i default).1 = .str (ks.getD i []):=by
   have h3:(es.map Prod.fst)[i]? =(ks.map AV.str)[i]?:=by rw[he]
   have hik:i<ks.length:=by have:=aW List.length he;simp at this;omega
   simp[hi,hik]at h3;simp[aq,hi,hik,h3]
  rw[h2]at h1;exact ajc h1
 have YO:ks.length=es.length:=by have:=aW List.length he;simp at this;omega
 have hmk:ms.toList.map (·.key)=ks.map encStr:=by
  apply List.ext_getElem
  ·simp;omega
  intro i h1 h2;have hi:i<es.length:=by simp at h2;omega
  have h3:=hkey i hi;have h4:i<ms.size:=ae;have h5:i<ks.length:=ae;simp[aq,h4,h5]at h3 |-;exact h3
 have hmb:ms.toList.map (·.born)=List.range es.length:=by
  apply List.ext_getElem
  ·simp;omega
  intro i h1 h2;have hi:i<es.length:=by simpa using h2
  have h3:=akF i hi;have h4:i<ms.size:=ae;simp[h4]at h3 |-;exact h3
 have u9:(Tryz.prog).underlying 9=some .string:=fc
 have hko:∀ s ∈ ks,keyOf (Tryz.prog) 9 (encStr s)=some (.string s):=fun s hs=>by
  have hsl:=hl s hs;simp only[keyOf,mapKey,u9];rw[au (cR (by show s.toArray.size<=1000000;simpa using hsl) (by show 1000000<=2^63-1;omega))]
 have hrd:∀ x ∈ ms.toList,∃ s ∈ ks,x.key=encStr s/\Go.WideElems.rd (Tryz.prog) 9 MW x=some (.string s,.lit (.bool true)):=fun x hx=>by
  have h1:x.key ∈ ms.toList.map (·.key):=cI.2 ⟨x,hx,rfl⟩;rw[hmk]at h1;obtain⟨s,hs,e⟩:=cI.1 h1;refine⟨s,hs,e.symm,?_⟩;have h2:=hko s hs;rw[e]at h2;exact Go.WideElems.rd_mk (R:=MW) (val:=x.val) (born:=x.born) h2 rfl
 have hfit:Go.WideElems.Fit (Tryz.prog) 9 MW ms clock:=by
  refine⟨cR (by omega:ms.size<=1000000) (by show 1000000<=2^63-1;omega),⟨fun x hx=>?_,?_,?_⟩,fun x hx=>?_⟩
  ·have h1:x.born ∈ ms.toList.map (·.born):=cI.2 ⟨x,hx,rfl⟩;rw[hmb,eF]at h1;omega
  ·rw[hmb];exact List.nodup_range
  ·rw[hmk];exact Qj hnd
  obtain⟨s,_,_,h⟩:=hrd x hx;exact⟨_,h⟩
 have hD:ms.toList.map (Go.WideElems.rg (Tryz.prog) 9 MW)=ks.map fun s=>(Lit.string s,DataW.lit (.bool true)):=by
  apply List.ext_getElem
  ·simp;omega
  intro i h1 h2;have h4:i<ms.size:=by simpa using h1
  have h5:i<ks.length:=by simpa using h2
  have h6:=hrd (ms.toList[i]'(by simpa using h4)) (dI _);obtain⟨s,hs,e1,e2⟩:=h6
  have h7:encStr s=encStr ks[i]:=by
   rw[<-e1];have:=aW (fun l=>l[i]?) hmk;simp[h4,h5]at this;simpa using this
  have h8:=encStr_inj h7;subst h8;rw[List.getElem_map,List.getElem_map,Go.WideElems.rg_of e2]
 have hown:w.ownsMap (Tryz.prog) 9 MW bm es.length (A6 ks):=⟨ms,clock,hwm,hfit,ae,by rw[hD];rfl⟩
 have hsz:Maps.size (A6 ks)=ks.length:=by
  show((ks.map fun s=>(Lit.string s,DataW.lit (.bool true))).foldr DataW.insert []).length=_;rw[length_sorted];simp
 have Ax:A.block<w.heap.size:=by
  exact(fq.1 hwb).1
 have hseq:SeqGives Fence.wide 2 (Tryz.prog) 76 #[.pointer (some ⟨A.block,0,none⟩)] encStr (fun ss=>ss.Perm (strKeys (A6 ks))) (Maps.size (A6 ks)) w :=
  AnyZ.keys_gives (ρ:=Tryz.MV) { Tryz.aja with } Fence.wide _ trivial rfl ae A.block bm es.length (A6 ks) w Ax (by simp[World.cell?,hwb]) hown
 have H:=AnyZ.sorted_in Tryz.aeY Fence.wide 5 trivial trivial trivial trivial rfl ae (Tryz.ag3 _) (enters_of Tryz.func75 fc rfl) 76 #[.pointer (some ⟨A.block,0,none⟩)] trivial (enters_of Tryz.func76 fc rfl) _ _ (by rw[hsz];exact cR hn (by show 1000000<=2^63-1;omega)) (by rw[hsz];omega) w hseq;refine(callsIn_wide.1 H).mono ?_;rintro e w' ⟨v,ss,rfl,hS,hrow,kU,Hl⟩;obtain⟨r1,r2⟩:=hR.uK Hl.size Hl.os Hl.tape Hl.output Hl.block;refine⟨.ret _,_,S,r1,r2,?_,rfl,rfl⟩;have oD:ss.mergeSort leB=nu ks:=mergeSort_of_perm hS;have ani:ss.length=(nu ks).length:=by rw[<-oD,List.length_mergeSort]
 rw[oD]at hrow;show VR _ _ _ _;have hx:((nu ks).map AV.str).length=ss.length:=by rw[cZ,ani]
 by_cases hz:ss.length=0
 ·have e0:nu ks=[]:=eP ae;rw[e0];rcases hrow.2 with⟨rfl,_⟩|⟨gb,cap,cur,rfl,hbase,hgb,r3,r4,r5,r6⟩
  ·exact VR.iT _ _ _ _ (fun _=>rfl)
  rw[hz];exact VR.iT _ _ _ _ (fun h=>by cases h)
 rcases hrow.2 with⟨_,h⟩|⟨gb,cap,cur,rfl,hbase,hgb,r3,r4,r5,r6⟩
 ·exact absurd h hz
 have hcell:∀ i,i<ss.length->cur[i]? = some (encStr ((nu ks).getD i [])):=fun i hi=>by
  have h1:=aW (fun l=>l[i]?) r6;have h2:i<(nu ks).length:=ae;simp only[jd,List.getElem?_take,au hi,Array.getElem?_toList,fP]at h1;rw[h1];simp[aq,h2]
 rw[<-hx];refine VR.aR _ _ _ _ _ _ (.inr ⟨hbase,(Array.getElem?_eq_some_iff.1 hgb).1⟩) (fun h=>by cases h) ae (fun i hi=>?_) (fun i c hi hc=>?_) (fun i c hi hc=>?_)
 ·have h2:i<(nu ks).length:=by simpa using hi
  simp[aq,h2,AV.fits]
 ·have h3:=hcell i ae;have hc0:c=0:=by simpa using hc
  subst hc0;simp[World.cell?,hgb,h3]
 have h3:=hcell i ae;have hc0:c=0:=by simpa using hc
 subst hc0;have h2:i<(nu ks).length:=by simpa using hi
 have e1:(((nu ks).map AV.str).getD i .undef).cell 0 = .str ((nu ks).getD i []):=by
  simp[aq,h2,AV.cell]
 have e2:eT w' ⟨gb,0+(i*1+0),none⟩=encStr ((nu ks).getD i []):=by
  simp[eT,World.cell?,hgb,h3]
 rw[e1,e2];exact VR.str _
set_option maxRecDepth 4000
abbrev ENm: El:=⟨true,2⟩
def Xp(p:aU × Nat): AV:= .agg [.str p.1,I p.2]
def KD(l:List (aU × Nat)): AV:= .aR false ENm (l.map Xp)
noncomputable def kY (m:Mo):List (aU × Nat):=(nu (m.vs.map (·.1))).map fun s=>(s,(jl m.vs s).length)
def aci(S:ai)(q:Nat): cE aH 49 [.mp q] S (fun o S'=>o = .ret (.fn (.func 76) [] [.ref S.length 0])/\S'=S++[.cells [.mp q]]):=by
 refine Fc.go ?_;unfold dP;intro Q aJ aK aL;repeat' first|refine aB ?_|refine aA ?_ ?_<;>intro hw<;>try omega|fail
 exact⟨rfl,rfl⟩
def A7(ks:List aU): (nu ks).length=ks.length:=by
 unfold nu A6;rw[List.length_mergeSort];simp[Go.strKeys,Go.length_sorted]
def acj{ks:List aU}{s:aU}(h:s ∈ nu ks): s ∈ ks:=by
 unfold nu A6 at h;rw[List.mem_mergeSort]at h;simp only[Go.strKeys,cI]at h;obtain⟨p,hp,rfl⟩:=h;have:=Go.mem_sorted.1 hp;obtain⟨t,ht,rfl⟩:=cI.1 this;exact ht
def yH {S : ai} {p q : Nat} {m : Mo} (h : jQ S p q m) (hnd : (m.vs.map (·.1)).Nodup) (hn : m.vs.length <= 1000000) (hs : ∀ s ∈ m.vs.map (·.1), s.length <= 1000000) (hl : ∀ s, (jl m.vs s).length <= 2^60) :
    kq aH 22 [.ref p 0] S (.bU [KD (kY m),I 0]):=by
 refine cE.drop ?_;have c1:=p8 h;have CW:=fun c:aY=>(eD.app S [c]) _ _ h.hp;have hqa:=fun c d:aY=>(eD.app S [c,d]) _ _ h.hq;unfold xG at CW;have ck:=Hj (S:=S++[.vec ENm [],.cells [.mp q]]) (k:=S.length+1) (q:=q) (es:=CV m.vs) (ks:=m.vs.map (·.1)) aQ (hqa _ _) (by simp[CV]) hnd (by simpa using hn) hs;have x4:=A7 (m.vs.map (·.1));have aeZ:kY m=(nu (m.vs.map (·.1))).map fun s=>(s,(jl m.vs s).length):=rfl;have Cv:(kY m).length<=1000000:=by rw[aeZ,cZ,x4,cZ];exact hn
 generalize hK:nu (m.vs.map (·.1))=Ks at *;refine E5.go ?_;unfold dP;intro Q aJ aK aL;repeat' first|simp (disch:=omega) only[go_sem,aJ,aK,aL,CW,aT,cJ]|refine aB ?_|with_reducible refine fC c1 ?_|with_reducible refine aeV (aci _ _) ?_|with_reducible refine fC ck ?_|refine aA ?_ ?_<;>intro hw<;>try omega|fail
 with_reducible refine bE [4,1,6,1,17,17] (fun i:Nat=>[(17,I i),(4,.own ENm S.length i 0 i)]) (fun i=>S++[.vec ENm (((kY m).take i).map Xp),.cells [.mp q]]) (fun i=>i<=(kY m).length) (fun i=>(kY m).length-i) (0) ?_ ?_ ?_ ?_
 ·simp
 ·simp
 ·exact at_
 rintro i r hi;try dsimp only at hi
 have hlK:(kY m).length=Ks.length:=by rw[aeZ,cZ]
 have hKl:(Ks.map AV.str).length=(kY m).length:=by rw[cZ,hlK]
 by_cases kK:i<(kY m).length
 ·have hkg:(Ks.map AV.str).getD i .undef = .str (Ks.getD i default):=getD_map _ _ _ ae;have hp2:=fun c d:aY=>(eD.app S [c,d]) _ _ h.hp;unfold xG at hp2;have uy:=xH (Ks.getD i default) m.vs 0;have tA:=hl (Ks.getD i default);have V7:(((kY m).take i).map Xp).length=i:=by simp;omega
  have hts:(kY m).take (i+1)=(kY m).take i++[(Ks.getD i default,(jl m.vs (Ks.getD i default)).length)]:=by
   rw[dD kK]
   congr 2
   have:Ks.getD i default=Ks[i]'ae:=by simp[aq,(by omega:i<Ks.length)]
   rw[this];simp[aeZ]
  cases hf:oV m.vs (Ks.getD i default) 0 with
  | none =>
    have hg:jl m.vs (Ks.getD i default)=[]:=by unfold jl;rw[hf]
    rw[hg]at hts tA;rw[hf]at uy;simp only[Option.map_none]at uy;repeat' first|simp (disch:=omega) only[go_sem,aJ,aK,aL,hp2,hqa,hkg,hKl,uy,V7,wv,jO,kC,bO,dO]|refine aB ?_|refine aA ?_ ?_<;>intro hw<;>try omega|fail
    refine⟨i+1,?_,?_,?_,da,?_⟩
    ·dsimp only;omega
    ·dsimp only;omega
    ·dsimp only;rw[hts,fI];rfl
    exact at_
  | some j =>
    obtain⟨k,l⟩:=j;have hg:jl m.vs (Ks.getD i default)=l:=by unfold jl;rw[hf]
    rw[hg]at hts tA;rw[hf]at uy;simp only[dh,yG]at uy;repeat' first|simp (disch:=omega) only[go_sem,aJ,aK,aL,hp2,hqa,hkg,hKl,uy,V7,wv,jO,kC,bO,dO]|refine aB ?_|refine aA ?_ ?_<;>intro hw<;>try omega|fail
    refine⟨i+1,?_,?_,?_,da,?_⟩
    ·dsimp only;omega
    ·dsimp only;omega
    ·dsimp only;rw[hts,fI];rfl
    exact at_
 obtain rfl:i=(kY m).length:=ae;repeat' first|refine cz hKl ?_|refine aB ?_|refine aA ?_ ?_<;>intro hw<;>try omega|fail
 refine⟨_,_,rfl,rfl,?_⟩;rw[fZ];exact View.ac7 (.cons (View.vec (T:=none) aQ aQ aQ (fm _ _ fun _=>rfl)) (.cons (.refl _ rfl) (.nil _)))
def rS(l:List jW)(hk:∀ e ∈ l,p7 e)(hl:l.length<=2^60): aS aH 20 [nL l,nL l] (.bool true):=by
 unfold nL;refine a_ JU ?_ (by simp[AV.dy,AV.cG,fm _ _ wq]);intro Q aJ aK aL;repeat' first|refine aB ?_|refine aA ?_ ?_<;>intro hw<;>try omega|fail
 with_reducible refine bE [4,2,11,16] (fun i:Nat=>[(5,I i)]) (fun _=>[]) (fun i=>i<=l.length) (fun i=>l.length-i) (0) ?_ ?_ ?_ ?_
 ·simp
 ·rfl
 ·exact at_
 rintro i r hi;try dsimp only at hi
 by_cases kK:i<l.length
 ·have c1:=Zy (l.getD i default) (l.getD i default) (hk _ (bq kK)).sm (hk _ (bq kK)).sm;rw[Zs]at c1;simp only[jY,nJ,bu,eN,eX]at c1;repeat' first|refine aB ?_|refine aA ?_ ?_<;>intro hw<;>try omega|fail
  refine⟨i+1,?_,?_,?_,da,?_⟩
  ·dsimp only;omega
  ·dsimp only;omega
  ·rfl
  exact at_
 obtain rfl:i=l.length:=ae;repeat' first|refine aB ?_|refine aA ?_ ?_<;>intro hw<;>try omega|fail
 all_goals exact aZ rfl rfl
def vu(l:List (aU × Nat))(hl:l.length<=2^60): aS aH 23 [KD l,KD l] (.bool true):=by
 unfold KD;refine a_ FZ ?_ (by simp[AV.dy,AV.cG,fm _ _ (fun p=>(rfl:(Xp p).dy=true))]);intro Q aJ aK aL;repeat' first|refine aB ?_|refine aA ?_ ?_<;>intro hw<;>try omega|fail
 with_reducible refine bE [4,2,11,15] (fun i:Nat=>[(5,I i)]) (fun _=>[]) (fun i=>i<=l.length) (fun i=>l.length-i) (0) ?_ ?_ ?_ ?_
 ·simp
 ·rfl
 ·exact at_
 rintro i r hi;try dsimp only at hi
 by_cases kK:i<l.length
 ·have hg:(l.map Xp).getD i .undef = .agg [.str (l.getD i default).1,I (l.getD i default).2]:=getD_map _ _ _ kK;repeat' first|refine cz hg ?_|refine aB ?_|refine aA ?_ ?_<;>intro hw<;>try omega|fail
  refine⟨i+1,?_,?_,?_,da,?_⟩
  ·dsimp only;omega
  ·dsimp only;omega
  ·rfl
  exact at_
 obtain rfl:i=l.length:=ae;repeat' first|refine aB ?_|refine aA ?_ ?_<;>intro hw<;>try omega|fail
 all_goals exact aZ rfl rfl
def Ej{s:aU}: ∀ {vs:List (aU × List Table)} {i j:Nat} {l:List Table},oV vs s i=some (j,l)->i<=j/\j-i<vs.length/\vs[j-i]? = some (s,l)
 | [],i,j,l,h=>by cases h
 | (a, k) :: r, i, j, l, h => by
   rw[oV]at h;by_cases e:(s==a)=true
   ·rw[au e]at h;cases h;have:s=a:=by simpa using e
    subst this;simp
   rw[aj e]at h;obtain⟨h1,h2,h3⟩:=Ej h;refine⟨ae,by simp;omega,?_⟩;rw[show j-i=(j-(i+1))+1 by omega,bH];exact h3
def MX{s:aU}: ∀ {vs:List (aU × List Table)} {i:Nat},oV vs s i=none->s ∉ vs.map (·.1)
 | [],i,_=>by simp
 | (a, k) :: r, i, h => by
   rw[oV]at h;by_cases e:(s==a)=true
   ·rw[if_pos e]at h;cases h
   rw[aj e]at h;have h1:=MX h;have h2:s≠a:=by simpa using e
   simp only[bB,gj,not_or];exact⟨h2,h1⟩
def vv(vs:List (aU × List Table))(s:aU): jl vs s=[]\/(s,jl vs s) ∈ vs:=by
 unfold jl;cases h:oV vs s 0 with
 | none=>exact .inl rfl
 | some j =>
   obtain⟨i,l⟩:=j;obtain⟨_,_,h3⟩:=Ej h;exact .inr (jv h3)
def ack(vs:List (aU × List Table))(s:aU)(l:List Table): (wz vs s l).map (·.1)=if s ∈ vs.map (·.1)then vs.map (·.1)else vs.map (·.1)++[s]:=by
 unfold wz;cases h:oV vs s 0 with
 | none=>rw[aj (MX h)];simp
 | some j =>
   obtain⟨i,k⟩:=j;obtain⟨_,h2,h3⟩:=Ej h;rw[Nat.sub_zero]at h2 h3;have hm:s ∈ vs.map (·.1):=cI.2 ⟨_,jv h3,rfl⟩;rw[au hm];dsimp only;rw[List.map_set];apply jy;intro n;by_cases e:i=n
   ·subst e;rw[bw (by simpa using h2)];simp[h3]
   rw[aF e]
def ZO{vs:List (aU × List Table)}(h:(vs.map (·.1)).Nodup)(s:aU)(l:List Table): ((wz vs s l).map (·.1)).Nodup:=by
 rw[ack];split
 ·exact h
 rename_i hs;exact List.nodup_append.2 ⟨h,aQ,fun a ha b hb e=>by simp at hb;subst hb;subst e;exact hs ha⟩
def ae0{vs:List (aU × List Table)}{s:aU}{l:List Table}{p:aU × List Table}(h:p ∈ wz vs s l): p=(s,l)\/p ∈ vs:=by
 unfold wz at h;cases hf:oV vs s 0 with
 | none=>rw[hf]at h;simp at h;exact h.symm
 | some j =>
   obtain⟨i,k⟩:=j;rw[hf]at h;rcases List.mem_or_eq_of_mem_set h with h|h
   ·exact .inr h
   exact .inl h
def ae1(vs:List (aU × List Table))(s:aU)(l:List Table): (wz vs s l).length<=vs.length+1:=by
 unfold wz;split<;>simp
structure Ur (m:Mo):Prop where
 nd:(m.vs.map (·.1)).Nodup
 vn:m.vs.length<=1000000
 vs:∀ p ∈ m.vs,iZ p.1=true/\p.1.length<=1000000/\p.2.length<=1000000/\ ∀ t ∈ p.2,j4 t
 xI:CU m.mark
 el:(m.es.length:Int)=m.mark.count-m.mark.base
 en:m.es.length<=1000
 ee:∀ e ∈ m.es,p7 e
def Ur.len{m:Mo}(h:Ur m)(s:aU): (jl m.vs s).length<=1000000:=by
 rcases vv m.vs s with e|e
 ·rw[e];simp
 exact(h.vs _ e).2.2.1
def Ek{S:ai}{p q p' q':Nat}{m:Mo}(h:jQ S p q m)(h':jQ S p' q' m)(a:Ur m): kq aH 18 [.ref p 0,.ref p' 0] S (.bool true):=by
 refine cE.drop ?_
 have hs:∀ s ∈ m.vs.map (·.1),s.length<=1000000:=fun s hs=>by
  obtain⟨x,hx,e⟩:=cI.1 hs;subst e;exact(a.vs x hx).2.1
 have tA:=fun s=>cR (a.len s) (by omega:1000000<=2^60);have m1:=fun T=>sC (h.keep (eD.app S T));have m2:=fun T=>sC (h'.keep (eD.app S T));have g1:=fun T=>uz (h.keep (eD.app S T)) a.xI a.el (by have:=a.en;omega) m.mark.base 1000 ae a.xI.bc ae;have g2:=fun T=>uz (h'.keep (eD.app S T)) a.xI a.el (by have:=a.en;omega) m.mark.base 1000 ae a.xI.bc ae;have n1:=fun T=>yH (h.keep (eD.app S T)) a.nd a.vn hs tA;have n2:=fun T=>yH (h'.keep (eD.app S T)) a.nd a.vn hs tA;have e1:=rS m.es a.ee (by have:=a.en;omega);have e2:=vu (kY m) (by simp[kY,A7];have:=a.vn;omega)
 have hlg:zQ m m.mark.base 1000=m.es:=by
  unfold zQ;have:=a.en;simp only[Int.sub_self,Int.toNat_zero,eO];exact bG ae
 rw[hlg]at g1 g2;have m1:∀ T:ai,kq aH 10 [.ref p 0] (S++T) (.bU [.agg [I m.mark.base,I m.mark.count,.str m.mark.anchor,.str m.mark.head],I 0]):=m1;have m2:∀ T:ai,kq aH 10 [.ref p' 0] (S++T) (.bU [.agg [I m.mark.base,I m.mark.count,.str m.mark.anchor,.str m.mark.head],I 0]):=m2;have m10:kq aH 10 [.ref p 0] S (.bU [.agg [I m.mark.base,I m.mark.count,.str m.mark.anchor,.str m.mark.head],I 0]):=sC h;simp only[KD]at n1 n2 e2;refine QA.go ?_;unfold dP;intro Q aJ aK aL;repeat' first|simp (disch:=omega) only[go_sem,aJ,aK,aL,lB,jO,k_,kC,bO,bH,dO,eA,bK,bS,aT,cJ]|refine aB ?_|with_reducible refine fC m10 ?_|with_reducible refine fC (m1 _) ?_|with_reducible refine fC (m2 _) ?_|with_reducible refine fC (g1 _) ?_|with_reducible refine fC (g2 _) ?_|with_reducible refine fC (n1 _) ?_|with_reducible refine fC (n2 _) ?_|refine aA ?_ ?_<;>intro hw<;>try omega|fail
 have hN:∀ i,i<(kY m).length->(kY m).getD i default=(((kY m).getD i default).1,(jl m.vs ((kY m).getD i default).1).length)/\((kY m).getD i default).1 ∈ m.vs.map (·.1):=fun i hi=>by
  have h1:(kY m).getD i default ∈ kY m:=bq hi;generalize (kY m).getD i default=x at *;unfold kY at h1;obtain⟨s,hs,rfl⟩:=cI.1 h1;exact⟨rfl,acj hs⟩
 have hNl:(kY m).length<=1000000:=by simp only[kY,cZ,A7];exact a.vn
 generalize kY m=N at *;with_reducible refine bE [4,1,17,8,90,55] (fun x:Nat × ai=>[(17,I x.1)]) (fun x=>S++x.2) (fun x=>x.1<=N.length) (fun x=>N.length-x.1) ((0,[aY.cells [I m.mark.base,I m.mark.count,.str m.mark.anchor,.str m.mark.head],aY.cells [I m.mark.base,I m.mark.count,.str m.mark.anchor,.str m.mark.head]])) ?_ ?_ ?_ ?_
 ·simp
 ·rfl
 ·exact at_
 rintro⟨i,T⟩ r hi;dsimp only at hi;by_cases kK:i<N.length
 ·have hg:(N.map Xp).getD i .undef = .agg [.str (N.getD i default).1,I (N.getD i default).2]:=getD_map _ _ _ kK;obtain⟨qg,mJ⟩:=hN i kK;generalize N.getD i default=x at *;obtain⟨s,n⟩:=x;dsimp only at hg qg mJ;have hn:n=(jl m.vs s).length:=aW Prod.snd qg;have hsl:=hs s mJ;have Cv:=a.len s
  have hnm:iZ s=true:=by
   obtain⟨y,hy,e⟩:=cI.1 mJ;rw[<-e];exact(a.vs y hy).1
  repeat' first|simp (disch:=omega) only[go_sem,aJ,aK,aL,hg,lB,jO,k_,kC,bO,bH,dO,eA,bK,bS,aT,cJ]|refine aB ?_|refine aA ?_ ?_<;>intro hw<;>try omega|fail
  with_reducible refine bE [4,1,18,7,96,49] (fun y:Nat × ai=>[(18,I (1+(y.1:Int)))]) (fun y=>S++y.2) (fun y=>y.1<=n) (fun y=>n-y.1) ((0,T)) ?_ ?_ ?_ ?_
  ·simp
  ·rfl
  ·exact at_
  rintro⟨j,T2⟩ r2 hj;dsimp only at hj;by_cases hjn:j<n
  ·have hv : ku m s (1 + (j : Int)) = ((jl m.vs s).getD j default, 1 + (j : Int), 0) := by
    unfold ku;rw[aj (by simp[hnm]),aj ae];try dsimp only
    rw[aj ae,show(1+(j:Int)-1).toNat=j by omega]
   have hok:j4 ((jl m.vs s).getD j default):=by
    have h1:(jl m.vs s).getD j default ∈ jl m.vs s:=bq ae;rcases vv m.vs s with e|e
    ·rw[e]at h1;cases h1
    exact(a.vs _ e).2.2.2 _ h1
   have v1:=fun T=>x3 (h.keep (eD.app S T)) s ae (1+(j:Int)) ae;have v2:=fun T=>x3 (h'.keep (eD.app S T)) s ae (1+(j:Int)) ae;rw[hv]at v1 v2;generalize (jl m.vs s).getD j default=t at *;have c3:=YV t t (Mi hok) (Mi hok);rw[TC]at c3;simp only[KB,dS,gK,b_,eR]at v1 v2 c3;repeat' first|simp (disch:=omega) only[go_sem,aJ,aK,aL,hg,lB,jO,k_,kC,bO,bH,dO,eA,bK,bS,aT,cJ]|refine aB ?_|with_reducible refine fC (v1 _) ?_|with_reducible refine fC (v2 _) ?_|refine aA ?_ ?_<;>intro hw<;>try omega|fail
   ·refine⟨(j+1,_),?_,?_,rfl,da,?_⟩
    ·dsimp only;omega
    ·dsimp only;omega
    dsimp only;rw[show (1+((j+1:Nat):Int))=1+(j:Int)+1 by omega];exact at_
   all_goals (
    refine⟨(i+1,_),?_,?_,rfl,da,?_⟩
    ·dsimp only;omega
    ·dsimp only;omega
    ·exact at_)
  obtain rfl:j=n:=ae;repeat' first|simp (disch:=omega) only[go_sem,aJ,aK,aL,hg,lB,jO,k_,kC,bO,bH,dO,eA,bK,bS,aT,cJ]|refine aB ?_|refine aA ?_ ?_<;>intro hw<;>try omega|fail
  all_goals (
   refine⟨(i+1,_),?_,?_,rfl,da,?_⟩
   ·dsimp only;omega
   ·dsimp only;omega
   ·exact at_)
 obtain rfl:i=N.length:=ae;repeat' first|refine aB ?_|refine aA ?_ ?_<;>intro hw<;>try omega|fail
 exact⟨_,_,rfl,rfl,View.refl _ rfl⟩
def acm(c:Cell): (HM c).1.length<=200:=by
 unfold HM;repeat' split
 all_goals (dsimp only;first|(simp;done)|omega)
def acn(x:Expr): (AG x).1.length<=200:=by
 unfold AG qM;repeat' split
 all_goals (dsimp only;first|(simp;done)|(simp_all;done)|(simp_all;omega))
def KE{t:Table}(h:j4 t): j4 (gk t).1:=by
 have ok0:j4 s7:=⟨cW,⟨cW,fun c hc=>(by cases hc)⟩,⟨cW,fun c hc=>(by cases hc)⟩,cW,fun c hc=>(by cases hc)⟩;by_cases he:(eC t).2.2.2=0
 ·unfold gk;rw[aj ae];split
  ·exact ok0
  obtain⟨a,b,c,d⟩:=h;obtain⟨h1,h2⟩:=BH ⟨a,b,c,d⟩ he;refine⟨a,b,c,?_,fun r hr=>?_⟩
  ·dsimp only;rw[xw];have:=d.1;omega
  obtain⟨k,_,rfl⟩:=cI.1 hr;have hk:=h2 k;unfold pT;rw[Ts];refine⟨⟨?_,fun s hs=>?_⟩,?_,fun s hs=>?_⟩
  ·dsimp only;rw[DR];have:=hk.1.1;omega
  ·obtain⟨m,_,rfl⟩:=cI.1 hs;have:=acm ((DS t k).cells.getD m default);unfold nG;omega
  ·dsimp only;rw[Gv];have:=hk.2.1;omega
  obtain⟨m,_,rfl⟩:=cI.1 hs;have:=acn ((DS t k).outs.getD m default);unfold qR;omega
 rw[s_ he];exact ok0
structure Act where
 kind:Int
 table:Table
 name:aU
 ver:Int
 row:List aX
 n:Int
 m:Int
deriving Inhabited
abbrev EA: El:=⟨true,12⟩
def Us(a:Act): List AV:=[I a.kind,.str a.table.name,b_ a.table.ins,b_ a.table.outs,I a.table.bW,I a.table.agg,eR a.table.rules,.str a.name,I a.ver,bu a.row,I a.n,I a.m]
def wB(a:Act): AV:= .agg (Us a)
attribute [go_sem] Us wB
structure HW (a:Act):Prop where
 tab:j4 a.table
 name:a.name.length<=300
 row:mT a.row
noncomputable def A8 (m:Mo) (a:Act):Mo × Int :=
 if a.kind=0 then((wA m a.table).1,(wA m a.table).2.2)else
 if a.kind=1\/a.kind=2 then((nK m a.name a.ver a.row).1,(nK m a.name a.ver a.row).2.2.2)else
 if a.kind=6 then qa m a.n else(m,0)
structure oO (m:Mo):Prop extends Ur m where
 st:sB m.mark (gu m.es)
 ct:m.mark.count<=1000
 be:∀ e ∈ m.es,(gM e).2=0
def tD{e:jW}(h:(gM e).2=0): (gM e).1.length<=2^37:=by
 obtain⟨h1,h2⟩:=VB h;have:=(I4 h1).2;rw[h2];dsimp only;omega
def CX{m:Mo}(h:Ur m){s:aU}{v:Int}(e:(ku m s v).2.2=0): j4 (ku m s v).1:=by
 unfold ku at e |-;by_cases hn:iZ s=false
 ·rw[au hn]at e;exact absurd e cW
 rw[aj hn]at e |-;try dsimp only at e |-
 generalize (if v=0 then((jl m.vs s).length:Int)else v)=w at *;by_cases hw:w<1\/((jl m.vs s).length:Int)<w
 ·rw[au hw]at e;exact absurd (show(6:Int)=0 from e) cW
 rw[aj hw];show j4 ((jl m.vs s).getD (w-1).toNat default);have h1:(jl m.vs s).getD (w-1).toNat default ∈ jl m.vs s:=bq ae;rcases vv m.vs s with e|e
 ·rw[e]at h1;cases h1
 exact(h.vs _ e).2.2.2 _ h1
def p_.app{S S':ai}{p q:Nat}{T:ai}(h:p_ p q (S++T) S'): p_ p q S S':=fun j ob e h1 h2=>h j ob (eD.app S T j ob e) h1 h2
def KG {S : ai} {p q : Nat} {m : Mo} (h : jQ S p q m) (ok : oO m) (a : Act) (oa : HW a) :
    cE aH 9 [.ref p 0,wB a] S (fun o S'=>o = .ret (I (A8 m a).2)/\jQ S' p q (A8 m a).1/\p_ p q S S'):=by
 have hk:=fun T:ai=>h.keep (eD.app S T);have tA:=fun s=>cR (ok.toUr.len s) (by omega:1000000<=2^30);have c1:=fun T=>EN (hk T) a.table oa.tab (KE oa.tab) tA;have c2:=fun T=>Hh (hk T) ok.xI (by have:=ok.ct;omega) a.name (by have:=oa.name;omega) a.ver (by have:=tA a.name;omega) a.row oa.row (fun e=>CX ok.toUr e) (fun x hx=>tD hx) (fun e=>Uh (CX ok.toUr e) _ oa.row) (by have:=ok.en;omega);have c3:=fun T=>EO (hk T) ok.xI ok.st ok.ee (fun e he=>tD (ok.be e he)) (by have:=ok.en;omega) a.n;obtain⟨E,hE⟩:=cq (A8 m a);rw[hE];unfold A8 at hE;refine UR.go ?_;unfold dP;intro Q aJ aK aL;repeat' first|simp (disch:=omega) only[go_sem,aJ,aK,aL,lB,jO,k_,kC,bO,bH,dO,eA,bK,bS,aT,cJ]|refine aB ?_|refine aA ?_ ?_<;>intro hw<;>try omega|fail
 ·refine bP (c1 _) ?_;rintro o S' ⟨rfl,hm,hkb⟩;rw[au ae]at hE;subst hE;repeat' first|refine aB ?_|refine aA ?_ ?_<;>intro hw<;>try omega|fail
  exact⟨rfl,hm,hkb.app⟩
 ·refine bP (c2 _) ?_;rintro o S' ⟨⟨r0,rfl,_⟩,hm,hkb⟩;rw[aj ae,au ae]at hE;subst hE;repeat' first|refine aB ?_|refine aA ?_ ?_<;>intro hw<;>try omega|fail
  exact⟨rfl,hm,hkb.app⟩
 ·refine bP (c2 _) ?_;rintro o S' ⟨⟨r0,rfl,_⟩,hm,hkb⟩;rw[aj ae,au ae]at hE;subst hE;repeat' first|refine aB ?_|refine aA ?_ ?_<;>intro hw<;>try omega|fail
  exact⟨rfl,hm,hkb.app⟩
 ·refine bP (c3 _) ?_;rintro o S' ⟨rfl,hm,hkb⟩;rw[aj ae,aj ae,au ae]at hE;subst hE;repeat' first|refine aB ?_|refine aA ?_ ?_<;>intro hw<;>try omega|fail
  exact⟨rfl,hm,hkb.app⟩
 rw[aj ae,aj ae,aj ae]at hE;subst hE;exact⟨rfl,qK h _⟩
structure qb (k:Nat) (m:Mo):Prop where
 vn:m.vs.length<=k
 vl:∀ p ∈ m.vs,p.2.length<=k
 en:m.es.length<=k
 ct:m.mark.count<=k
def qb.up{k:Nat}{m:Mo}(h:qb k m): qb (k+1) m:=⟨by have:=h.vn;omega,fun p hp=>by have:=h.vl p hp;omega,by have:=h.en;omega,by have:=h.ct;omega⟩
def qb.get{k:Nat}{m:Mo}(h:qb k m)(s:aU): (jl m.vs s).length<=k:=by
 rcases vv m.vs s with e|e
 ·rw[e];simp
 exact h.vl _ e
def ZP(l k:List jW): gu (l++k)=gu l++gu k:=by simp[gu]
def Em{k:Nat}{m:Mo}(ok:oO m)(b:qb k m)(n:Int): oO (qa m n).1/\qb k (qa m n).1:=by
 unfold qa;split
 ·rename_i h;obtain⟨h1,h2⟩:=ai_ ok.xI ok.st h.1 h.2;have hdr:gu (m.es.drop (n-m.mark.base).toNat)=(gu m.es).drop (n-m.mark.base).toNat:=by simp[gu,List.map_drop]
  have hl:=h2.1;rw[dJ,nr]at hl;refine⟨⟨⟨ok.nd,ok.vn,ok.vs,h1,?_,?_,fun e he=>ok.ee e (ju he)⟩,?_,ok.ct,fun e he=>ok.be e (ju he)⟩,⟨b.vn,b.vl,?_,b.ct⟩⟩
  ·dsimp only;rw[List.length_drop];exact hl
  ·dsimp only;rw[List.length_drop];have:=ok.en;omega
  ·dsimp only;rw[hdr];exact h2
  dsimp only;rw[List.length_drop];have:=b.en;omega
 exact⟨ok,b⟩
def Xq{k:Nat}{m:Mo}(ok:oO m)(b:qb k m)(hk:k<=900)(s:aU)(v:Int)(row:List aX)(hr:mT row): oO (nK m s v row).1/\qb (k+1) (nK m s v row).1:=by
 unfold nK;split
 ·exact⟨ok,b.up⟩
 rename_i h1;split
 ·exact⟨ok,b.up⟩
 split
 ·exact⟨ok,b.up⟩
 rename_i h2 h3;have hx:=Uh (CX (s:=s) (v:=v) ok.toUr ae) (ku m s v).2.1 hr;generalize (ux (ku m s v).1 (ku m s v).2.1 row).1=x at *;have hct:=b.ct;have hst:=VH ok.st (gM x).1;have hmk:=aeU ok.xI ae (gM x).1;have hel:=ok.el;refine⟨⟨⟨ok.nd,ok.vn,ok.vs,hmk,?_,?_,fun e he=>?_⟩,?_,?_,fun e he=>?_⟩,⟨by have:=b.vn;exact Nat.le_succ_of_le this,fun p hp=>Nat.le_succ_of_le (b.vl p hp),?_,?_⟩⟩
 ·simp[j7];omega
 ·simp;have:=b.en;omega
 ·rcases List.mem_append.1 he with he|he
  ·exact ok.ee e he
  obtain rfl:=eY.1 he;exact hx
 ·dsimp only;rw[ZP];exact hst
 ·simp[j7];omega
 ·rcases List.mem_append.1 he with he|he
  ·exact ok.be e he
  obtain rfl:=eY.1 he;omega
 ·simp;exact b.en
 simp[j7];omega
def Xr{k:Nat}{m:Mo}(ok:oO m)(b:qb k m)(hk:k<=900)(t:Table)(ht:j4 t): oO (wA m t).1/\qb (k+1) (wA m t).1:=by
 have okc:=KE ht;unfold wA;split
 ·exact⟨ok,b.up⟩
 split
 ·exact⟨ok,b.up⟩
 rename_i h1 h2;generalize (gk t).1=c at *;have hw:=agP okc (Prod.ext rfl (by omega:(m_ c).2=0):m_ c=((m_ c).1,0));have tA:=b.get c.name
 have hn:iZ c.name=true:=by
  have h0:=(I2 (Prod.ext rfl (by omega:(m_ c).2=0):m_ c=((m_ c).1,0))).1
  have hm:(eC c).2.2.2=0:=by
   by_cases e:(eC c).2.2.2=0
   ·exact e
   rw[s_ e]at h0;exact h0
  by_cases hf:jV c=0
  ·exact(BN hf).1
  rw[BE hf]at hm;exact absurd hm hf
 have h16:=wo hn
 have hnew:∀ p ∈ wz m.vs c.name (jl m.vs c.name++[c]),iZ p.1=true/\p.1.length<=1000000/\p.2.length<=k+1/\ ∀ t ∈ p.2,j4 t:=fun p hp=>by
  rcases ae0 hp with rfl|hp
  ·refine⟨hn,by dsimp only;omega,by simp;exact tA,fun u hu=>?_⟩;rcases List.mem_append.1 hu with hu|hu
   ·rcases vv m.vs c.name with e|e
    ·rw[e]at hu;cases hu
    exact(ok.vs _ e).2.2.2 u hu
   obtain rfl:=eY.1 hu;exact okc
  exact⟨(ok.vs p hp).1,(ok.vs p hp).2.1,Nat.le_succ_of_le (b.vl p hp),(ok.vs p hp).2.2.2⟩
 have hvl:=ae1 m.vs c.name (jl m.vs c.name++[c]);have hvn:=b.vn;exact⟨⟨⟨ZO ok.nd _ _,by dsimp only;omega,fun p hp=>⟨(hnew p hp).1,(hnew p hp).2.1,by have:=(hnew p hp).2.2.1;omega,(hnew p hp).2.2.2⟩,ok.xI,ok.el,ok.en,ok.ee⟩,ok.st,ok.ct,ok.be⟩,⟨by dsimp only;omega,fun p hp=>(hnew p hp).2.2.1,Nat.le_succ_of_le b.en,by have:=b.ct;dsimp only;omega⟩⟩
def aco{k:Nat}{m:Mo}(ok:oO m)(b:qb k m)(hk:k<=900)(a:Act)(oa:HW a): oO (A8 m a).1/\qb (k+1) (A8 m a).1:=by
 unfold A8;split
 ·exact Xr ok b hk _ oa.tab
 split
 ·exact Xq ok b hk _ _ _ oa.row
 split
 ·exact⟨(Em ok b a.n).1,(Em ok b a.n).2.up⟩
 exact⟨ok,b.up⟩
def ajd{m:Mo}{a:Act}(h:(A8 m a).2≠0): (A8 m a).1=m:=by
 unfold A8 at h |-;split
 ·rename_i h0;rw[au h0]at h;unfold wA at h |-;split
  ·rfl
  split
  ·rfl
  rename_i h1 h2;rw[aj h1,aj h2]at h;exact absurd rfl h
 rename_i h0;rw[aj h0]at h;split
 ·rename_i h1;rw[au h1]at h;unfold nK at h |-;split
  ·rfl
  split
  ·rfl
  split
  ·rfl
  rename_i h2 h3 h4;rw[aj h2,aj h3,aj h4]at h;exact absurd rfl h
 rename_i h1;rw[aj h1]at h;split
 ·rename_i h2;rw[au h2]at h;unfold qa at h |-;split
  ·rename_i h3;rw[au h3]at h;exact absurd rfl h
  rfl
 rfl
section
@[go_sem] def anj (sz off n : Nat) (cs : List AV) (K : AV -> Prop) (h : ¬(off = 0 /\ n = sz)) : tL false ⟨true, sz⟩ (.agg cs) off true n (.mk : Tg K) = req (off + n <= sz) (.mk : Tg (K (.agg ((cs.drop off).take n)))) := by
  refine af4 _ _ _ _ _ ?_;rw[Bool.eq_false_iff];intro hh;simp at hh;exact h hh
end
def tS(l:List Act): AV:= .aR false EA (l.map wB)
def KH(a:Act): (wB a).dy=true:=by simp[wB,Us,AV.dy,AV.cG,kf,r_]
def BQ(a:Act): Bool:=xx a.table && decide (a.name.length<=300) && (decide (a.row.length<=12) && a.row.all rK)
def zR(l:List Act): Bool:=decide (l.length<=30) && l.all BQ
def Qk(l:List Act): aS aH 6 [tS l] (.bool (zR l)):=by
 unfold tS;obtain⟨E,hE⟩:=cq (zR l);rw[hE];unfold zR at hE;refine a_ H8 ?_ (by simp[AV.dy,AV.cG,fm _ _ KH]);intro Q aJ aK aL;repeat' first|refine aB ?_|refine aA ?_ ?_<;>intro hw<;>try omega|fail
 ·rw[cQ ae,g_]at hE;subst hE;exact aZ rfl rfl
 with_reducible refine bE [2,2,7,31] (fun i:Nat=>[(3,I i)]) (fun _=>[]) (fun i=>i<=l.length/\ ∀ k,k<i->BQ (l.getD k default)=true) (fun i=>l.length-i) (0) ?_ ?_ ?_ ?_
 ·exact⟨ae,fun k h=>absurd h (dm _)⟩
 ·rfl
 ·exact at_
 rintro i r ⟨hi,hall⟩;try dsimp only at hi
 by_cases kK:i<l.length
 ·have c1:=Vm (l.getD i default).table;have c2:=abT (l.getD i default).row;have hg:(l.map wB).getD i .undef=wB (l.getD i default):=getD_map _ _ _ kK;have hf:BQ (l.getD i default)=(xx (l.getD i default).table && decide ((l.getD i default).name.length<=300) && (decide ((l.getD i default).row.length<=12) && (l.getD i default).row.all rK)):=rfl;have hmem:=bq kK;generalize ha:l.getD i default=a at *;generalize xx a.table=b1 at *;generalize (decide (a.row.length<=12) && a.row.all rK)=b2 at *;simp only[dS,gK,b_,eR,bu]at c1 c2;simp only[wB,Us,b_,eR,bu]at hg;cases b1<;>cases b2
  ·repeat' first|refine cz hg ?_|refine aB ?_|refine aA ?_ ?_<;>intro hw<;>try omega|fail
   all_goals (
    have hx:l.all BQ=false:=by
     rw[ig];exact⟨a,hmem,by rw[hf];simp;try omega⟩
    rw[hx,h_]at hE;subst hE;exact aZ rfl rfl)
  ·repeat' first|refine cz hg ?_|refine aB ?_|refine aA ?_ ?_<;>intro hw<;>try omega|fail
   all_goals (
    have hx:l.all BQ=false:=by
     rw[ig];exact⟨a,hmem,by rw[hf];simp;try omega⟩
    rw[hx,h_]at hE;subst hE;exact aZ rfl rfl)
  ·repeat' first|refine cz hg ?_|refine aB ?_|refine aA ?_ ?_<;>intro hw<;>try omega|fail
   all_goals (
    have hx:l.all BQ=false:=by
     rw[ig];exact⟨a,hmem,by rw[hf];simp;try omega⟩
    rw[hx,h_]at hE;subst hE;exact aZ rfl rfl)
  repeat' first|refine cz hg ?_|refine aB ?_|refine aA ?_ ?_<;>intro hw<;>try omega|fail
  ·refine⟨i+1,?_,?_,?_,da,?_⟩
   ·refine⟨Nat.succ_le_of_lt kK,fun k hk=>?_⟩;by_cases e:k=i
    ·rw[e,ha,hf];simp;omega
    exact hall k ae
   ·try dsimp only
    omega
   ·rfl
   exact at_
  have hx:l.all BQ=false:=by
   rw[ig];exact⟨a,hmem,by rw[hf];simp;omega⟩
  rw[hx,h_]at hE;subst hE;exact aZ rfl rfl
 obtain rfl:i=l.length:=ae
 have hx:l.all BQ=true:=by
  rw[bf];intro a ha;obtain⟨k,hk,rfl⟩:=bV ha;have:=hall k hk;rw[show l.getD k default=l[k] by simp[aq,hk]]at this;exact this
 rw[hx,bQ ae,Bool.and_self]at hE;subst hE;repeat' first|refine aB ?_|refine aA ?_ ?_<;>intro hw<;>try omega|fail
 exact aZ rfl rfl
def ae2{vs:Array Value}(h:1=vs.size): vs = #[vs.getD 0 Go.undef]:=by
 apply Array.ext
 ·simp[<-h]
 intro i h1 h2;simp at h2;subst h2;simp[<-h]
def maps_Clone{S:ai}{q:Nat}{es:List (AV × AV)}(hq:S[q]? = some (.map es)): cE aH 43 [.mp q] S (fun o S'=>o = .ret (.mp S.length)/\S'=S++[.map es]):=by
 refine⟨⟨_,Tryz.func43,fc,fc⟩,fun g w vs hR hlen hv=>?_⟩;have h0:=hv 0 aQ;rw[ae2 (vs:=vs) (by simpa using hlen)];generalize vs.getD 0 Go.undef=v at h0;simp only[cH]at h0;cases h0;rename_i hmp;obtain⟨_,b,rfl,hb⟩:=hmp;obtain⟨ZN,bm,ms,clock,WO,hwm,vA,IN,hkv⟩:=hR.ok q _ hq;have Iu:=hb ZN;rw[WO]at Iu;cases Iu;refine(AnyW.maps_Clone Tryz.ajb b ms clock w hwm).mono ?_;rintro e w' ⟨rfl,rfl⟩;have hm:=mH g w (.map ms clock) 0 (some w.heap.size) 0 hR.lt;obtain⟨r1,r2⟩:=hR.tT (.map ms clock) (.map es) 0 0 ⟨by simp[aN.push],w.heap.size,ms,clock,by simp[aN.push],heap_alloc_new w _,vA,IN,fun i hi=>⟨(hkv i hi).1.mono hm,(hkv i hi).2.mono hm⟩⟩;exact⟨.ret (.mp S.length),_,_,r1,r2,.mp _ _ ⟨by simp[aN.push,hR.len],_,rfl,fun _=>by simp[aN.push,hR.len]⟩,rfl,rfl⟩
def ZQ {S : ai} {p q : Nat} {m : Mo} (h : jQ S p q m) (he : m.es.length <= 2^30) :
    cE aH 17 [.ref p 0] S (fun o S'=>o = .ret (.ref (S.length+1) 0)/\S'=S++[.map (CV m.vs),.cells (xG S.length m)]):=by
 have c1:=p8 h;have c2:=maps_Clone h.hq;have c3:=rR (m.es.map jY) (fm _ _ wq) (Ei _) (by simpa using he);have hp:=h.hp;unfold xG nL at hp |-;have CW:=fun T:ai=>(eD.app S T) _ _ hp;refine E0.go ?_;unfold dP;intro Q aJ aK aL;repeat' first|refine cz (zA hp CW) ?_|refine aB ?_|with_reducible refine fC c1 ?_|refine aA ?_ ?_<;>intro hw<;>try omega|fail
 have hp2:=CW [.map (CV m.vs)];refine agV c2 ⟨.inr (Qh hp hp2 aQ aQ),.inr (Qh hp hp2 aQ aQ),trivial⟩ ?_;repeat' first|refine cz (zB hp CW hp2) ?_|refine aB ?_|refine aA ?_ ?_<;>intro hw<;>try omega|fail
 refine yp ⟨trivial,rfl,by show 5<=6;omega⟩ fun _=>?_;repeat' first|refine aB ?_|refine aA ?_ ?_<;>intro hw<;>try omega|fail
 refine yp ⟨trivial,rfl,by show 6<=6;omega⟩ fun _=>?_;repeat' first|refine aB ?_|refine aA ?_ ?_<;>intro hw<;>try omega|fail
 refine yp rfl fun _=>?_;repeat' first|refine aB ?_|refine aA ?_ ?_<;>intro hw<;>try omega|fail
 rw[aT];exact⟨by simp[oneOf],rfl⟩
def strings_Repeat(s:List UInt8)(m:Nat)(h1:m<=1000000)(h2:s.length*m<=1000000): aS aH 55 [.str s,.int .i64 m] (.str (Lib.repeatL s m)):=by
 refine nC ⟨_,Tryz.func55,fc,fc⟩ fun g w σ vs hR hl hv=>?_;have h3:=hv 0 aQ;have h4:=hv 1 aQ;rw[L_ hl];generalize vs.getD 0 Go.undef=v at h3;generalize vs.getD 1 Go.undef=u at h4;simp only[cH,iu]at h3 h4;cases h3;cases h4;refine⟨.string ⟨(Lib.repeatL s m).toArray⟩,fun g' w'=>VR.str _,(Tryz.strings_Repeat ⟨s.toArray⟩ m w ae (by show s.toArray.size*m<=_;rw[List.size_toArray];omega)).mono ?_⟩;rintro e w' ⟨rfl,h⟩;refine⟨?_,h.os,h.tape,h.output,h.size,h.block⟩;simp
noncomputable def z32:aU:=List.replicate 32 0
def VJ: aS aH 30 [] (.agg [I 0,I 0,.str z32,.str z32]):=by
 have h1:=strings_Repeat [0] 32 ae aQ;rw[show Lib.repeatL [(0:UInt8)] 32=z32 from rfl]at h1;obtain⟨E,hE⟩:=cq z32;rw[hE]at h1 |-;refine a_ Nq ?_;intro Q aJ aK aL;repeat' first|refine aB ?_|refine aA ?_ ?_<;>intro hw<;>try omega|fail
 all_goals exact aZ rfl rfl
def acp(S:ai): cE aH 8 [] S (fun o S'=>o = .ret (.ref (S.length+1) 0)/\S'=S++[.map [],.cells [.mp S.length,I 0,I 0,.str z32,.str z32,.aR false ⟨true,6⟩ []]]):=by
 have h0:cE aH 8 [] S (fun o S'=>o = .ret (.ref (S.length+1) 0)/\S'=S++[.map [],.cells [.mp S.length,I 0,I 0,.str z32,.str z32,.aV]]):=by
  have h1:=VJ;refine Sv.go ?_;unfold dP;intro Q aJ aK aL;repeat' first|refine aB ?_|refine aA ?_ ?_<;>intro hw<;>try omega|fail
  refine yp ⟨trivial,rfl,by show 5<=6;omega⟩ fun _=>?_;repeat' first|refine aB ?_|refine aA ?_ ?_<;>intro hw<;>try omega|fail
  refine yp rfl fun _=>?_;repeat' first|refine aB ?_|refine aA ?_ ?_<;>intro hw<;>try omega|fail
  rw[aT];exact⟨by simp[oneOf],rfl⟩
 have h2:=h0.anf (p:=S.length+1) (j:=5) (cs:=[.mp S.length,I 0,I 0,.str z32,.str z32,.aV]) (el:=⟨true,6⟩) aQ aQ rfl;refine h2.mono ?_;rintro o S' ⟨rfl,rfl⟩;exact⟨rfl,aQ⟩
noncomputable def mE:Mo:=⟨[],⟨0,0,z32,z32⟩,[]⟩
def zS: oO mE/\qb 0 mE:=by
 refine⟨⟨⟨by simp[mE],by simp[mE],fun p hp=>(by cases hp),⟨by simp[mE],by simp[mE],by simp[mE],by simp[mE,z32],by simp[mE,z32],fun _=>rfl⟩,by simp[mE],by simp[mE],fun e he=>(by cases he)⟩,⟨by simp[mE,gu],rfl⟩,by simp[mE],fun e he=>(by cases he)⟩,⟨by simp[mE],fun p hp=>(by cases hp),by simp[mE],by simp[mE]⟩⟩
def Rt(S:ai): cE aH 8 [] S (fun o S'=>o = .ret (.ref (S.length+1) 0)/\jQ S' (S.length+1) S.length mE/\eD S S'):=by
 refine(acp S).mono ?_;rintro o S' ⟨rfl,rfl⟩;refine⟨rfl,⟨?_,?_⟩,eD.app _ _⟩
 ·rw[lB];rfl
 rw[jO];rfl
def acq{S:ai}{p q:Nat}{m:Mo}(h:jQ S p q m)(he:m.es.length<=2^30): cE aH 17 [.ref p 0] S (fun o S'=>o = .ret (.ref (S.length+1) 0)/\jQ S' (S.length+1) S.length m/\eD S S'):=by
 refine(ZQ h he).mono ?_;rintro o S' ⟨rfl,rfl⟩;refine⟨rfl,⟨?_,?_⟩,eD.app _ _⟩
 ·rw[lB];rfl
 rw[jO];rfl
def Ut: Table:=⟨[116],[⟨[97],1,[]⟩],[⟨[111],1,[]⟩],2,0,[⟨[[60,53]],[[97,32,43,32,49]]⟩]⟩
def CY: Table:=⟨[116],[⟨[97],1,[]⟩],[⟨[111],1,[]⟩],2,0,[⟨[[60,32,53]],[[97,32,43,32,49]]⟩]⟩
def nV(n:Int): aX:=⟨1,n,[]⟩
def Ho: jW:=⟨[116],1,[nV 1],0,[0],[[nV 2]]⟩
def vw: jW:=⟨[116],1,[nV 2],0,[0],[[nV 3]]⟩
def acr: gk Ut=(CY,0,0,0):=fc
def acs: (m_ CY).2=0:=fc
def acu: ux CY 1 [nV 1]=(Ho,0):=fc
def acv: ux CY 1 [nV 2]=(vw,0):=fc
def Ql: (gM Ho).2=0:=fc
def Qm: (gM vw).2=0:=fc
def Uu: j4 Ut:=by
 refine⟨cW,⟨cW,fun c hc=>?_⟩,⟨cW,fun c hc=>?_⟩,cW,fun r hr=>?_⟩
 ·obtain rfl:=List.mem_singleton.1 hc;exact⟨cW,cW,fun v hv=>by cases hv⟩
 ·obtain rfl:=List.mem_singleton.1 hc;exact⟨cW,cW,fun v hv=>by cases hv⟩
 obtain rfl:=eY.1 hr;exact⟨⟨cW,fun s hs=>by obtain rfl:=eY.1 hs;decide⟩,cW,fun s hs=>by obtain rfl:=eY.1 hs;decide⟩
def afA{n:Int}(h:nM n): mT [nV n]:=⟨by show 1<=2^30;omega,fun w hw=>by obtain rfl:=eY.1 hw;exact⟨h,by show 0<=2^30;omega⟩⟩
def Q_: aS aH 27 [] (dS Ut):=by
 obtain⟨E,hE⟩:=cq (dS Ut);rw[hE];refine a_ JR ?_;intro Q aJ aK aL;repeat' first|refine aB ?_|refine aA ?_ ?_<;>intro hw<;>try omega|fail
 rw[<-hE];refine Ao ?_;have v1:∀ σ s (k:Int),View σ (.agg [.str s,I k,.aV]) (dQ ⟨s,k,[]⟩):=fun σ s k=>View.nS (.cons (.refl _ rfl) (.cons (.refl _ rfl) (.cons (.aV _) (.nil _))));have v2:∀ σ s,View σ (.aR true E1 [.str s]) (iY [s]):=fun σ s=> .weak _ _ _ rfl;exact View.nS (.cons (.refl _ rfl) (.cons (View.Ni (.cons (v1 _ _ _) (.nil _))) (.cons (View.Ni (.cons (v1 _ _ _) (.nil _))) (.cons (.refl _ rfl) (.cons (.refl _ rfl) (.cons (View.Ni (.cons (View.nS (.cons (v2 _ _) (.cons (v2 _ _) (.nil _)))) (.nil _))) (.nil _)))))))
def Qn(n:Int): aS aH 29 [I n] (bu [nV n]):=by
 refine a_ Sn ?_;intro Q aJ aK aL;repeat' first|refine aB ?_|refine aA ?_ ?_<;>intro hw<;>try omega|fail
 exact⟨_,rfl,.weak _ _ _ rfl⟩
def ag4: wA mE Ut=(⟨[([116],[CY])],mE.mark,[]⟩,1,0):=by
 unfold wA;rw[acr];dsimp only;rw[aj cW,aj (by rw[acs];decide)];rfl
def ag5{mk:Mk}{es:List jW}(v:Int)(hv:v=0\/v=1): ku ⟨[([116],[CY])],mk,es⟩ [116] v=(CY,1,0):=by
 rcases hv with rfl|rfl<;>rfl
def Xs{mk:Mk}{es:List jW}{v n:Int}{x:jW}(hv:v=0\/v=1)(hx:ux CY 1 [nV n]=(x,0))(hb:(gM x).2=0): nK ⟨[([116],[CY])],mk,es⟩ [116] v [nV n]=(⟨[([116],[CY])],j7 mk (gM x).1,es++[x]⟩,x,mk.count,0):=by
 unfold nK;rw[ag5 v hv];dsimp only;rw[hx];dsimp only;rw[aj cW,aj cW,aj (by rw[hb];decide)]
def ZR(m:Mk)(s:aU): (j7 m s).count=m.count+1:=rfl
def acw(m:Mk)(s:aU): (j7 m s).base=m.base:=rfl
def ae3 {S : ai} {p q : Nat} {m : Mo} (h : jQ S p q m) (ok : oO m) (s : aU) (hs : s.length <= 300) (v : Int) (row : List aX) (hrow : mT row) :
    cE aH 28 [.ref p 0,.str s,I v,bu row] S (fun o S'=>(∃ r0,o = .ret (.bU [r0,I (nK m s v row).2.2.1,I (nK m s v row).2.2.2])/\((nK m s v row).2.2.2=0->r0=jY (nK m s v row).2.1))/\jQ S' p q (nK m s v row).1/\p_ p q S S') :=
 Hh h ok.xI (by have:=ok.ct;omega) s ae v (by have:=ok.toUr.len s;omega) row hrow (fun e=>CX ok.toUr e) (fun x hx=>tD hx) (fun e=>Uh (CX ok.toUr e) _ hrow) (by have:=ok.en;omega)
def Qo {S : ai} {p q : Nat} {m : Mo} (h : jQ S p q m) (ok : oO m) (k : Int) :
    cE aH 19 [.ref p 0,I k] S (fun o S'=>o = .ret (I (qa m k).2)/\jQ S' p q (qa m k).1/\p_ p q S S') :=
 EO h ok.xI ok.st ok.ee (fun e he=>tD (ok.be e he)) (by have:=ok.en;omega) k
def vJ: List (aU × List Table):=[([116],[CY])]
def afB {S : ai} {p q : Nat} {mk : Mk} {es : List jW} {v n : Int} {x : jW} (hv : v = 0 \/ v = 1) (hx : ux CY 1 [nV n] = (x, 0)) (hb : (gM x).2 = 0) (h : jQ S p q ⟨vJ, mk, es⟩) (ok : oO ⟨vJ, mk, es⟩) (hrow : mT [nV n]) :
    cE aH 28 [.ref p 0,.str [116],I v,bu [nV n]] S (fun o S'=>o = .ret (.bU [jY x,I mk.count,I 0])/\jQ S' p q ⟨vJ,j7 mk (gM x).1,es++[x]⟩/\p_ p q S S'):=by
 have hD:=ae3 h ok [116] (by show 1<=300;omega) v [nV n] hrow;have d1:nK ⟨vJ,mk,es⟩ [116] v [nV n]=_:=Xs hv hx hb;rw[d1]at hD;refine hD.mono fun o S' hh=>?_;have h1:=And.left hh;have h2:=And.right hh;refine And.intro ?_ h2;exact Exists.elim h1 fun r0 e=>by rw[And.left e,And.right e rfl]
def aje{k:Nat}{mk:Mk}{es:List jW}{v n:Int}{x:jW}(hk:k<=900)(hv:v=0\/v=1)(hx:ux CY 1 [nV n]=(x,0))(hb:(gM x).2=0)(ok:oO ⟨vJ,mk,es⟩)(b:qb k ⟨vJ,mk,es⟩)(hrow:mT [nV n]): oO ⟨vJ,j7 mk (gM x).1,es++[x]⟩/\qb (k+1) ⟨vJ,j7 mk (gM x).1,es++[x]⟩:=by
 have h:=Xq ok b hk [116] v [nV n] hrow;have d1:nK ⟨vJ,mk,es⟩ [116] v [nV n]=_:=Xs hv hx hb;rw[d1]at h;exact h
def ae4{mk:Mk}(hb:mk.base=0)(hc:mk.count=2): qa ⟨vJ,mk,[Ho,vw]⟩ 1=(⟨vJ,sN mk (gu [Ho,vw]) 1,[vw]⟩,0):=by
 unfold qa;dsimp only;rw[au (And.intro ae ae),hb];rfl
def akG {S : ai} {p q : Nat} {mk : Mk} {k : Nat} (hb : mk.base = 0) (hc : mk.count = 2) (h : jQ S p q ⟨vJ, mk, [Ho, vw]⟩) (ok : oO ⟨vJ, mk, [Ho, vw]⟩) (b : qb k ⟨vJ, mk, [Ho, vw]⟩) :
    cE aH 19 [.ref p 0,I 1] S (fun o S'=>o = .ret (I 0)/\(jQ S' p q ⟨vJ,sN mk (gu [Ho,vw]) 1,[vw]⟩/\oO ⟨vJ,sN mk (gu [Ho,vw]) 1,[vw]⟩)/\p_ p q S S'):=by
 have h1:=Qo h ok 1;have h2:=And.left (Em ok b 1);rw[ae4 hb hc]at h1 h2;exact h1.mono fun o S' hh=>⟨hh.1,⟨hh.2.1,h2⟩,hh.2.2⟩
def akH{S:ai}{p q:Nat}{mk:Mk}{l:List aU}(hc:mk.count=2)(h:jQ S p q ⟨vJ,sN mk l 1,[vw]⟩)(ok:oO ⟨vJ,sN mk l 1,[vw]⟩): kq aH 11 [.ref p 0,I 1,I 9] S (.bU [nL [vw],I 0]):=by
 have h1:=uz h ok.xI ok.el (by have:=ok.en;omega) 1 9 (by show(1:Int)<=1;omega) (by show(1:Int)<=mk.count;omega) ae;exact h1
def ae5(a b:aU): (j7 (j7 mE.mark a) b).base=0:=rfl
def Qp(a b:aU): (j7 (j7 mE.mark a) b).count=2:=rfl
def ae6(h:p7 vw): aS aH 20 [nL [vw],nL [vw]] (.bool true):=rS [vw] (fun e he=>by obtain rfl:=eY.1 he;exact h) (by show 1<=2^60;omega)
attribute [local irreducible] gM BO j7 sy nK
def I_: aS aH 7 [] (.bool true):=by
 have c1:=Q_;have n1:=Qn 1;have n2:=Qn 2;have ajf:mT [nV 1]:=afA (by unfold nM;omega);have ajg:mT [nV 2]:=afA (by unfold nM;omega);have aoL:([116]:aU).length<=300:=by show 1<=300;omega
 refine a_ Nu ?_;intro Q aJ aK aL;repeat' first|refine aB ?_|refine aA ?_ ?_<;>intro hw<;>try omega|fail
 refine bP (Rt _) ?_;rintro o S1 ⟨rfl,h1,_⟩;generalize ([]:ai).length+1=p at *;generalize ([]:ai).length=q at *;repeat' first|refine aB ?_|refine aA ?_ ?_<;>intro hw<;>try omega|fail
 refine bP (EN h1 Ut Uu (KE Uu) (fun s=>by have:=zS.2.get s;omega)) ?_;obtain⟨ok1,b1⟩:=Xr zS.1 zS.2 ae Ut Uu;rw[ag4]at ok1 b1 |-;rintro o S2 ⟨rfl,h2,_⟩;dsimp only at h2 ok1 b1;repeat' first|refine aB ?_|refine aA ?_ ?_<;>intro hw<;>try omega|fail
 have hI:=aje (v:=0) ae (.inl rfl) acu Ql ok1 b1 ajf;refine bP (afB (.inl rfl) acu Ql h2 ok1 ajf) ?_;refine fun o S3 hh=>?_;have eo:=And.left hh;have h3:=And.left (And.right hh);subst eo;clear hh;have ok2:=And.left hI;have b2:=And.right hI;clear hI;have hct:=ZR mE.mark (gM Ho).1;have dR:=acw mE.mark (gM Ho).1;repeat' first|refine aB ?_|refine aA ?_ ?_<;>intro hw<;>try omega|fail
 have Uv:=fun T=>h3.keep (eD.app S3 T);have hI2:=aje (v:=1) ae (.inr rfl) acv Qm ok2 b2 ajg;refine bP (afB (.inr rfl) acv Qm (Uv _) ok2 ajg) ?_;refine fun o S4 hh=>?_;have eo:=And.left hh;have h4:=And.left (And.right hh);have kb4:=And.right (And.right hh);subst eo;clear hh;have ok3:=And.left hI2;have b3:=And.right hI2;clear hI2;have ank:=(aE.1 h4.hp).1;have anl:=(aE.1 h4.hq).1;have hk4:=fun T=>h4.keep (eD.app S4 T);repeat' first|refine aB ?_|refine aA ?_ ?_<;>intro hw<;>try omega|fail
 refine bP (akG (ae5 _ _) (Qp _ _) (hk4 _) ok3 b3) ?_;refine fun o S5 hh=>?_;have eo:=And.left hh;have h5:=And.left (And.left (And.right hh));have ok5:=And.right (And.left (And.right hh));have kb5:=And.right (And.right hh);subst eo;clear hh;have hx5:=kb5 S4.length _ (jO S4 _) ae ae;have g1:=akH (Qp _ _) h5 ok5;have e1:=ae6 (ok5.ee _ (eY.2 rfl));clear h5 ok5 h4 ok3 b3 kb5 hk4 ank anl h3 Uv ok2 b2;generalize S4.length=px at *;unfold nL at g1 e1;repeat' first|refine cz hx5 ?_|refine aB ?_|refine As e1 ?_|with_reducible refine fC g1 ?_|refine aA ?_ ?_<;>intro hw<;>try omega|fail
 ·exact aZ rfl rfl
 exact absurd (show mE.mark.count=0 from rfl) (by assumption)
def jQ.HX{S S':ai}{p q p2 q2:Nat}{m:Mo}(h:jQ S p2 q2 m)(k:p_ p q S S')(h1:p2≠p)(h2:p2≠q)(h3:q2≠p)(h4:q2≠q): jQ S' p2 q2 m:=⟨k _ _ h.hp h1 h2,k _ _ h.hq h3 h4⟩
def jQ.lt{S:ai}{p q:Nat}{m:Mo}(h:jQ S p q m): p<S.length/\q<S.length:=⟨(aE.1 h.hp).1,(aE.1 h.hq).1⟩
def Hp(hlv:aS aH 7 [] (.bool true))(l:List Act)(hok:zR l=true-> ∀ a ∈ l,HW a): aS aH 4 [tS l] (.bool true):=by
 have c0:=Qk l;refine a_ B7 ?_ (by simp[tS,AV.dy,AV.cG,fm _ _ KH]);intro Q aJ aK aL;cases hf:zR l with
 | false =>
   rw[hf]at c0;repeat' first|refine aB ?_|refine eU c0 ?_|refine aA ?_ ?_<;>intro hw<;>try omega|fail
   all_goals exact aZ rfl rfl
 | true =>
   rw[hf]at c0;have hok:=hok hf;have h30:l.length<=30:=by simp[zR]at hf;exact hf.1
   unfold tS at c0 |-;repeat' first|refine aB ?_|refine eU c0 ?_|refine aA ?_ ?_<;>intro hw<;>try omega|fail
   refine bP (Rt _) ?_;rintro o S1 ⟨rfl,wY,Lb⟩;have ao0:=wY.lt;have anm:=wY.ne;generalize ([]:ai).length+1=p1 at *;generalize ([]:ai).length=q1 at *;repeat' first|refine aB ?_|refine aA ?_ ?_<;>intro hw<;>try omega|fail
   refine bP (Rt _) ?_;rintro o S2 ⟨rfl,Ai,kI⟩;have wY:=wY.keep kI;generalize hp2:S1.length+1=p2 at *;generalize Lt:S1.length=q2 at *;repeat' first|refine aB ?_|refine aA ?_ ?_<;>intro hw<;>try omega|fail
   with_reducible refine bE [2,1,5,3,14,34] (fun x:Nat × ai × Mo=>[(5,I x.1)]) (fun x=>x.2.1) (fun x=>x.1<=l.length/\jQ x.2.1 p1 q1 x.2.2/\jQ x.2.1 p2 q2 x.2.2/\oO x.2.2/\qb x.1 x.2.2) (fun x=>l.length-x.1) ((0,S2,mE)) ?_ ?_ ?_ ?_
   ·exact⟨aQ,wY,Ai,zS.1,zS.2⟩
   ·rfl
   ·exact at_
   rintro⟨i,S,M⟩ r ⟨hi,h1,h2,ok,bd⟩;dsimp only at hi h1 h2 ok bd;have hS1:=h1.lt;have hS2:=h2.lt;by_cases kK:i<l.length
   ·have hg:(l.map wB).getD i .undef=wB (l.getD i default):=getD_map _ _ _ kK;have Xt:=hok _ (bq kK);generalize l.getD i default=a at *;obtain⟨ok',bd'⟩:=aco ok bd ae a Xt;repeat' first|refine cz hg ?_|refine aB ?_|refine aA ?_ ?_<;>intro hw<;>try omega|fail
    refine bP (acq h1 (by have:=ok.en;omega)) ?_;rintro o S3 ⟨rfl,hw,Uv⟩;have WM:=h1.keep Uv;have h2a:=h2.keep Uv;generalize hpw:S.length+1=pw at *;generalize hqw:S.length=qw at *;repeat' first|refine cz hg ?_|refine aB ?_|refine aA ?_ ?_<;>intro hw<;>try omega|fail
    refine bP (KG WM ok a Xt) ?_;rintro o S4 ⟨rfl,h1b,hkb⟩;have h2b:=h2a.HX hkb ae ae ae ae;have hwb:=hw.HX hkb ae ae ae ae;repeat' first|refine cz hg ?_|refine aB ?_|refine aA ?_ ?_<;>intro hw<;>try omega|fail
    refine bP (KG h2b ok a Xt) ?_;rintro o S5 ⟨rfl,h2c,hkc⟩;have h1c:=h1b.HX hkc ae ae ae ae;have Uw:=hwb.HX hkc ae ae ae ae;by_cases he:(A8 M a).2=0
    ·repeat' first|refine aB ?_|refine aA ?_ ?_<;>intro hw<;>try omega|fail
     refine⟨(i+1,S5,(A8 M a).1),?_,?_,?_,da,?_⟩
     ·exact⟨Nat.succ_le_of_lt kK,h1c,h2c,ok',bd'⟩
     ·dsimp only;omega
     ·rfl
     exact at_
    have hsame:=Ek h1c (ajd he ▸ Uw) ok'.toUr;repeat' first|refine aB ?_|with_reducible refine fC hsame ?_|refine aA ?_ ?_<;>intro hw<;>try omega|fail
    refine⟨(i+1,S5,(A8 M a).1),?_,?_,?_,da,?_⟩
    ·exact⟨Nat.succ_le_of_lt kK,h1c,h2c,ok',bd'⟩
    ·dsimp only;omega
    ·rfl
    exact at_
   obtain rfl:i=l.length:=ae;have hsame:=Ek h1 h2 ok.toUr;repeat' first|refine aB ?_|with_reducible refine fC hsame ?_|refine aA ?_ ?_<;>intro hw<;>try omega|fail
   all_goals exact aZ rfl rfl
def KI(a:Act): Prop:=JK a.table/\ ∀ v ∈ a.row,Tz v
def acy{a:Act}(h:BQ a=true)(hr:KI a): HW a:=by
 simp only[BQ,aD,aM,bf]at h;obtain⟨⟨h1,h2⟩,h3,h4⟩:=h;refine⟨adX h1 hr.1,h2,aeN ⟨ae,fun v hv=>⟨hr.2 v hv,?_⟩⟩⟩;have:=h4 v hv;simp only[rK,aM]at this;omega
def acz{l:List Act}(hr:∀ a ∈ l,KI a)(h:zR l=true): ∀ a ∈ l,HW a:=fun a ha=>by
 simp only[zR,aD,aM,bf]at h;exact acy (h.2 a ha) (hr a ha)
end Go.Proofs.YtoldfccfpameeaaGreatDoor
namespace Go.AM
open Go.ChangeShapes Go.WideShapes
section
variable {H:Type} {enc:TypeId × Value->H} {P:Program} {w w':World} {base:Nat} {spare:Nat->Bool} {held:Bool}
def vK: ∀ {ts:List TypeId} {vs:List Value} {ds:List (DataW H)} {ps:List MemPlace},DataW.TrodAll enc P w base spare held ts vs ds ps->(∀ p ∈ ps,w.sameAt w' p)->DataW.TrodAll enc P w' base spare held ts vs ds ps
 | [],[],[],_,h,_=>h
 | _::_,_::_,_::_,_,⟨p,q,⟨n,hn⟩,h2,e⟩,hs=>⟨p,q,⟨n,DataW.trod_carry n _ _ _ hn (fun x hx=>hs x (by rw[e];exact eL _ hx))⟩,vK h2 (fun x hx=>hs x (by rw[e];exact fQ _ hx)),e⟩
def MY{may:MemPlace->Prop}(h1:w'.os=w.os)(h2:w'.output=w.output)(h3:∀ b,b<w.heap.size->w'.heap[b]? = w.heap[b]?): w.keptBut w' may:=by
 refine⟨h1,h2,fun i hi=>?_⟩;rw[h3 i hi];split
 ·rename_i a b ha hb;rw[ha]at hb;cases Option.some.inj hb;exact⟨rfl,rfl,rfl,fun _ _=>rfl⟩
 ·rename_i a b ha hb;rw[ha]at hb;cases Option.some.inj hb;exact .inr ⟨rfl,rfl⟩
 rfl
def Om(h3:∀ b,b<w.heap.size->w'.heap[b]? = w.heap[b]?){p:MemPlace}(hp:p.block<w.heap.size): w.sameAt w' p:=by
 cases p with
 | cell b off=>exact nT (h3 b hp) off none
 | map b=>exact h3 b hp
def aN.all(w:World): aN:=aN.bare (· < w.heap.size)
def En {f : FuncId} {fn : Func} {s : ChangeSpec} {t : TypeId} {args' : List AV} {W : World} {args : Array Value} {ds gs : List (DataW H)} {before : List MemPlace}
    (h:aS P f args' (.bool true)) (hW:DataW.Whole enc P fn.params.toList s.vars false W args.toList ds gs before) (hG:yf (aN.all W) W)
    (K:Kids P (· < P.types.size)) (hz:∀ t e,t<P.types.size->P.underlying t=some (.slice e)->0<P.cellsOf e) (hps:∀ t ∈ fn.params.toList,t<P.types.size)
    (hvars:s.vars=[]) (hrt:fn.resultTypes = #[t]) (ht:P.underlying t=some .bool) (hfn:s.fn H (ds++gs) = { results:=[.lit (.bool true)],args:=ds,vars:=[] })
    (hl:args'.length=args.size) (hv:∀ i,i<args'.length->VR (aN.all W) W (args'.getD i .undef) (args.getD i Go.undef)) :
    Calls P f args W fun e W'=> ∃ v,e = .returned v/\s.post enc P fn false true false false W args v W':=by
 refine((h []).2 (aN.all W) W args (Rel.bare (fun _ h=>h) hG) hl hv).mono ?_;rintro e W' ⟨out,g',σ',hR,hE,hO,rfl,rfl⟩;have hfr:∀ b,b<W.heap.size->W'.heap[b]? = W.heap[b]?:=fun b hb=>hE.frame b hb jm;cases e with
 | panicked c=>exact hO.elim
 | outgrown=>exact hO.elim
 | returned v =>
   have hb:v = .bool true:=by cases hO;rfl
   subst hb;refine⟨_,rfl,ds,gs,before,[],before,[],hW,?_,?_,?_,MY hE.os hE.output hfr,fun h=>by cases h⟩
   ·rw[hfn,hrt];exact trodAll_mk1 (RowKit.shut_bool ht true)
   ·rw[hfn];have hlt:=hW.lt;obtain⟨p,q,h1,h2,rfl,_,_⟩:=hW;rw[hvars]at h2;obtain⟨rfl,rfl⟩:=trodVars_none h2;rw[bZ]at hlt |-;refine vK (DataW.TrodAll.respare K hz hps h1 (fun x hx=>by simpa using hlt x hx)) (fun x hx=>Om hfr (hlt x hx))
   rw[hfn,hvars];rfl
def VR.string{g:aN}{w:World}(s:ByteArray): VR g w (.str s.data.toList) (.string s):=VR.str s.data.toList
end
def uA(g:aN)(w:World)(az:List AV)(vs:List Value): Prop:=az.length=vs.length/\ ∀ i,i<az.length->VR g w (az.getD i .undef) (vs.getD i Go.undef)
def uA.nil(g:aN)(w:World): uA g w [] []:=⟨rfl,fun i hi=>by cases hi⟩
def uA.app{g:aN}{w:World}{a b:List AV}{x y:List Value}(h:uA g w a x)(k:uA g w b y): uA g w (a++b) (x++y):=by
 have h1:=h.1;refine⟨by simp[h.1,k.1],fun i hi=>?_⟩;rw[aC]at hi;by_cases hl:i<a.length
 ·have:=h.2 i hl;rw[aq,aq]at this |-;rw[aI hl,aI ae];exact this
 have:=k.2 (i-a.length) ae;rw[aq,aq]at this |-;rw[bp ae,bp ae,<-h1];exact this
def uA.one{g:aN}{w:World}{a:AV}{x:Value}(h:VR g w a x): uA g w [a] [x]:=⟨rfl,fun i hi=>by
 match i,hi with
 | 0,_=>exact h⟩
def uA.agg{g:aN}{w:World}{az:List AV}{vs:Array Value}(h:uA g w az vs.toList)(hs:az.all AV.scalar=true): VR g w (.agg az) (.agg vs):=by
 refine .agg az vs (by simpa using h.1) hs (fun i hi=>?_);have:=h.2 i hi;simpa[aq,e8]using this
section
variable {H:Type} {enc:TypeId × Value->H} {P:Program} {w:World}
def Reads(enc:TypeId × Value->H)(P:Program)(w:World)(N:Nat)(t:TypeId)(n:Nat){α : Type}(E : α->List AV)(G : α->Prop): Prop :=
 P.cellsOf t=n/\(∀ a,(E a).length=n)/\ ∀ fuel cs x,fuel<=N->DataW.trod enc P w 0 (fun _=>true) true fuel t cs=some x-> ∃ a,G a/\uA (aN.all w) w (E a) cs
def Reads.weak{N t n:Nat}{α : Type}{E : α->List AV}{G G' : α->Prop}(h:Reads enc P w N t n E G)(hg:∀ a,G a->G' a): Reads enc P w N t n E G' :=
 ⟨h.1,h.2.1,fun f cs x hf hx=>by obtain⟨a,h1,h2⟩:=h.2.2 f cs x hf hx;exact⟨a,hg a h1,h2⟩⟩
def Reads.map{N t n:Nat}{α β : Type}{E : α->List AV}{G : α->Prop}{E' : β->List AV}{G' : β->Prop}(h:Reads enc P w N t n E G)(f : α-> β)(hE:∀ a,E' (f a)=E a)(hl:∀ b,(E' b).length=n)(hg:∀ a,G a->G' (f a)): Reads enc P w N t n E' G' :=
 ⟨h.1,hl,fun fu cs x hf hx=>by obtain⟨a,h1,h2⟩:=h.2.2 fu cs x hf hx;exact⟨f a,hg a h1,by rw[hE];exact h2⟩⟩
def Reads.int{N t:Nat}(ht:P.underlying t=some (.int .i64))(hc:P.cellsOf t=1): Reads enc P w N t 1 (fun n:Int=>[.int .i64 n]) (fun n=> -9223372036854775808<=n/\n<=9223372036854775807) :=
 ⟨hc, fun _ => rfl, fun f cs x _ hx => by
   obtain⟨n,rfl,_,wf⟩:=DataW.trod_int ht hx;exact⟨n,by simpa[Lit.wf,IntKind.min,IntKind.max,IntKind.signed,IntKind.bits]using wf,uA.one (.int _ _)⟩⟩
def Reads.str{N t:Nat}(ht:P.underlying t=some .string)(hc:P.cellsOf t=1): Reads enc P w N t 1 (fun s:List UInt8=>[.str s]) (fun _=>True) :=
 ⟨hc, fun _ => rfl, fun f cs x _ hx => by
   obtain⟨s,rfl,_,_⟩:=DataW.trod_string ht hx;exact⟨s.data.toList,trivial,uA.one (VR.string s)⟩⟩
def Reads.bool{N t:Nat}(ht:P.underlying t=some .bool)(hc:P.cellsOf t=1): Reads enc P w N t 1 (fun b:Bool=>[.bool b]) (fun _=>True) :=
 ⟨hc, fun _ => rfl, fun f cs x _ hx => by
   obtain⟨b,rfl,_⟩:=DataW.trod_bool ht hx;exact⟨b,trivial,uA.one (.bool b)⟩⟩
def Reads.slice {N t e n : Nat} {α : Type} [Inhabited α] {E : α -> List AV} {G : α -> Prop} (el : El) (mk : α -> AV) (ht : P.underlying t = some (.slice e)) (hc : P.cellsOf t = 1) (h : Reads enc P w N e n E G) (V_ : 0 < n) (hsz : el.sz = n)
    (hfit:∀ a,(mk a).fits el=true) (hcell:∀ a c,c<n->(mk a).cell c=(E a).getD c .undef):Reads enc P w (N+1) t 1 (fun l:List α=>[.aR false el (l.map mk)]) (fun l=> ∀ a ∈ l,G a):=by
 refine⟨hc,fun _=>rfl,fun fuel cs x hf hx=>?_⟩;rcases DataW.trod_slice ht hx with⟨rfl,rfl⟩|⟨a,len,cap,elems,rest,k,hk,rfl,_,_,hl,_,hlen,hel,_,_⟩
 ·exact⟨[],aQ,uA.one (.iT _ _ _ _ (fun h=>by cases h))⟩
 have each:∀ i,i<len-> ∃ q : α,G q/\ ∃ cs',w.cells? 0 (a.add (i*P.cellsOf e)) (P.cellsOf e)=some cs'/\uA (aN.all w) w (E q) cs':=fun i hi=>by
  have h1:=hel i hi;rw[aG ae]at h1;obtain⟨cs',h2,h3⟩:=gQ.1 h1;obtain⟨q,h4,h5⟩:=h.2.2 k cs' _ ae h3;exact⟨q,h4,cs',h2,h5⟩
 obtain⟨q,hq⟩:=Deep.choose_lt each;refine⟨(List.range len).map q,fun x hx=>by obtain⟨i,hi,rfl⟩:=cI.1 hx;exact(hq i (eF.1 hi)).1,uA.one ?_⟩;have hn:=h.1;by_cases h0:len=0
 ·subst h0;exact .iT _ _ _ _ (fun h=>by cases h)
 have hcells:∀ i c,i<len->c<n-> ∃ v,w.cell? (a.add (i*n+c))=some v/\VR (aN.all w) w ((E (q i)).getD c .undef) v:=fun i c hi iL=>by
  obtain⟨_,cs',h2,h3⟩:=hq i hi;rw[hn]at h2;obtain⟨_,h4,h5⟩:=World.cells?_some h2;have h6:=h5 c iL;rw[Deep.add_add,aG ae]at h6;have h7:=h3.2 c (by rw[h.2.1];exact iL);rw[aq (l:=cs'),aG ae]at h7;exact⟨_,h6,h7⟩
 obtain⟨v0,mF,_⟩:=hcells 0 0 ae ae
 have afC:a.spot=none:=by
  have:=World.cell?_spot mF;simpa[Addr.add]using this
 obtain⟨b,off,sp⟩:=a;simp only at afC;subst afC
 have hlt:b<w.heap.size:=by
  rw[add_plain]at mF;simp only[World.cell?]at mF;split at mF
  ·rename_i x hx;exact(fq.1 hx).1
  ·cases mF
 have qL:∀ i,i<len->(((List.range len).map q).map mk).getD i .undef=mk (q i):=fun i hi=>by
  simp[aq,hi]
 have:=VR.aR (g:=aN.all w) (w:=w) false el (((List.range len).map q).map mk) b off cap hlt (fun h=>by cases h) (by simpa using hl)
  (fun i hi=>by rw[qL i (by simpa using hi)];exact hfit _)
  (fun i c hi iL => by
    obtain⟨v,hv,_⟩:=hcells i c (by simpa using hi) ae;rw[add_plain]at hv;rw[hsz,hv];rfl)
  (fun i c hi iL => by
    obtain⟨v,hv,hr⟩:=hcells i c (by simpa using hi) ae;rw[add_plain]at hv;rw[qL i (by simpa using hi),eT,hsz,hv,hcell _ _ ae];exact hr)
 simpa using this
def yU(enc:TypeId × Value->H)(P:Program)(w:World)(N:Nat)(fs:List Field)(o:Nat){α : Type}(E : α->List AV)(G : α->Prop): Prop :=
 ∀ (cs : List Value) (fuel : Nat) (ys : List (DataW H × List MemPlace)), fuel <= N -> (∀ (i : Nat) (f : Field), fs[i]? = some f -> DataW.trod enc P w 0 (fun _ => true) true fuel f.type ((cs.drop f.offset).take (P.cellsOf f.type)) = ys[i]?) -> ys.length = fs.length ->
   ∃ a,G a/\uA (aN.all w) w (E a) ((cs.drop o).take (E a).length)
def yU.nil{N o:Nat}: yU enc P w N [] o (fun _:Unit=>[]) (fun _=>True):=fun cs fuel ys _ _ _=>⟨(),trivial,by simpa using uA.nil _ _⟩
def yU.cons {N o n : Nat} {f : Field} {fs : List Field} {α β : Type} {E : α -> List AV} {G : α -> Prop} {E' : β -> List AV} {G' : β -> Prop} (h : Reads enc P w N f.type n E G) (ho : f.offset = o) (hk : yU enc P w N fs (o + n) E' G') :
    yU enc P w N (f::fs) o (fun p : α × β=>E p.1++E' p.2) (fun p=>G p.1/\G' p.2):=by
 intro cs fuel ys hf hx hl;cases ys with
 | nil=>simp at hl
 | cons y ys =>
   have h0:=hx 0 f rfl;rw[ho,h.1]at h0;obtain⟨a,g1,v1⟩:=h.2.2 fuel _ _ hf (by simpa using h0);obtain⟨b,g2,v2⟩:=hk cs fuel ys hf (fun i f' Fy=>by have:=hx (i+1) f' (by simpa using Fy);simpa using this) (by simpa using hl);refine⟨(a,b),⟨g1,g2⟩,?_⟩;have:=v1.app v2;have hlen:=h.2.1 a
   have e:(cs.drop o).take n++(cs.drop (o+n)).take (E' b).length=(cs.drop o).take (E a++E' b).length:=by
    rw[aC,hlen,List.take_add,List.drop_drop]
   rwa[e]at this
def Reads.struct{N t n:Nat}{fs:Array Field}{α : Type}{E : α->List AV}{G : α->Prop}(ht:P.underlying t=some (.struct fs))(hc:P.cellsOf t=n)(hE:∀ a,(E a).length=n)(h:yU enc P w N fs.toList 0 E G): Reads enc P w (N+1) t n E G:=by
 refine⟨hc,hE,fun fuel cs x hf hx=>?_⟩;obtain⟨xs,k,hk,_,hlen,hxl,hfs⟩:=DataW.trod_struct ht hx;obtain⟨a,g,v⟩:=h cs k xs ae (fun i f hf=>hfs i f (by simpa using hf)) (by simpa using hxl);refine⟨a,g,?_⟩;rw[hE,eO,bG ae]at v;exact v
def Reads.deep{t n:Nat}{α : Type}{E : α->List AV}{G : α->Prop}(h:∀ N,Reads enc P w N t n E G){v:Value}{d:DataW H}{ps:List MemPlace}(hd:DataW.Trod enc P w 0 (fun _=>true) true t v d ps): ∃ a,G a/\uA (aN.all w) w (E a) v.cells.toList:=by
 obtain⟨f,hf⟩:=hd;exact(h f).2.2 f _ _ (bg _) hf
end
end Go.AM
namespace Go.Proofs.YtoldfccfpameeaaGreatDoor
open Go.AM
set_option maxRecDepth 8000
section
variable {H:Type} {enc:TypeId × Value->H} {w:World}
abbrev ae7(n:Int): Prop:=nM n
abbrev RD(enc:TypeId × Value->H)(w:World)(N:Nat)(t:TypeId)(n:Nat){α : Type}(E : α->List AV)(G : α->Prop): Prop:=Reads enc Tryz.prog w N t n E G
def MZ(N:Nat){t:TypeId}(ht:Tryz.prog.underlying t=some (.int .i64))(hc:Tryz.prog.cellsOf t=1): RD enc w N t 1 (fun n:Int=>[I n]) ae7:=Reads.int ht hc
def Hq(N:Nat): RD enc w N 9 1 (fun s:aU=>[.str s]) (fun _=>True):=Reads.str Tryz.underlying9 fc
def Xu(N:Nat): RD enc w N 108 1 (fun n:Int=>[I n]) ae7:=MZ N Tryz.underlying108 fc
def Hr(N:Nat): RD enc w N 3 1 (fun n:Int=>[I n]) ae7:=MZ N Tryz.underlying3 fc
def ano(v:aX): List AV:=[I v.kind,I v.n,.str v.s]
def rd_val(N:Nat): RD enc w (N+1) 110 3 ano Tz:=by
 have h:=Reads.struct (enc:=enc) (w:=w) (N:=N) (n:=3) Tryz.underlying110 fc (fun _=>rfl) (.cons (Xu N) rfl (.cons (Hr N) rfl (.cons (Hq N) rfl .nil)));exact h.map (fun p=>⟨p.1,p.2.1,p.2.2.1⟩) (fun _=>rfl) (fun _=>rfl) (fun p h=>h.2.1)
def Xv(N:Nat): RD enc w (N+2) 35 1 (fun l:List aX=>[bu l]) (fun l=> ∀ v ∈ l,Tz v) :=
 Reads.slice EV c8 Tryz.underlying35 fc (rd_val N) cW rfl (fun _=>rfl) (fun _ _ _=>rfl)
def anp(c:cV): List AV:=[.str c.name,I c.kind,bu c.order]
def ajh(N:Nat): RD enc w (N+3) 115 3 anp (fun c=> ∀ v ∈ c.order,Tz v):=by
 have h:=Reads.struct (enc:=enc) (w:=w) (N:=N+2) (n:=3) Tryz.underlying115 fc (fun _=>rfl) (.cons (Hq _) rfl (.cons (Xu _) rfl (.cons (Xv N) rfl .nil)));exact h.map (fun p=>⟨p.1,p.2.1,p.2.2.1⟩) (fun _=>rfl) (fun _=>rfl) (fun p h=>h.2.2.1)
def Xw(N:Nat): RD enc w (N+4) 29 1 (fun l:List cV=>[b_ l]) YZ :=
 Reads.slice EC dQ Tryz.underlying29 fc (ajh N) cW rfl (fun _=>rfl) (fun _ _ _=>rfl)
def Xx(N:Nat): RD enc w (N+1) 47 1 (fun l:List aU=>[iY l]) (fun _=>True):=by
 refine(Reads.slice E1 fH Tryz.underlying47 fc (Hq N) cW rfl (fun _=>rfl) ?_).weak (fun _ _=>trivial);intro s c hc;have h0:c=0:=ae;subst h0;rfl
def akI(r:ia): List AV:=[iY r.cells,iY r.outs]
def ag6(N:Nat): RD enc w (N+2) 107 2 akI (fun _=>True):=by
 have h:=Reads.struct (enc:=enc) (w:=w) (N:=N+1) (n:=2) Tryz.underlying107 fc (fun _=>rfl) (.cons (Xx N) rfl (.cons (Xx N) rfl .nil));exact h.map (fun p=>⟨p.1,p.2.1⟩) (fun _=>rfl) (fun _=>rfl) (fun p h=>trivial)
def ae8(N:Nat): RD enc w (N+3) 32 1 (fun l:List ia=>[eR l]) (fun _=>True) :=
 (Reads.slice ER fY Tryz.underlying32 fc (ag6 N) cW rfl (fun _=>rfl) (fun _ _ _=>rfl)).weak (fun _ _=>trivial)
def ae9(N:Nat): RD enc w (N+5) 34 6 gK JK:=by
 have h:=Reads.struct (enc:=enc) (w:=w) (N:=N+4) (n:=6) Tryz.underlying34 fc (fun _=>rfl) (.cons (Hq _) rfl (.cons (Xw N) rfl (.cons (Xw N) rfl (.cons (MZ _ Tryz.underlying30 fc) rfl (.cons (MZ _ Tryz.underlying31 fc) rfl (.cons (ae8 (N+1)) rfl .nil))))));exact h.map (fun p=>⟨p.1,p.2.1,p.2.2.1,p.2.2.2.1,p.2.2.2.2.1,p.2.2.2.2.2.1⟩) (fun _=>rfl) (fun _=>rfl) (fun p h=>⟨h.2.1,h.2.2.1⟩)
def aji(N:Nat): RD enc w (N+6) 37 12 Us KI:=by
 have h:=Reads.struct (enc:=enc) (w:=w) (N:=N+5) (n:=12) Tryz.underlying37 fc (fun _=>rfl) (.cons (Hr _) rfl (.cons (ae9 N) rfl (.cons (Hq _) rfl (.cons (Hr _) rfl (.cons (Xv (N+3)) rfl (.cons (Hr _) rfl (.cons (Hr _) rfl .nil)))))));exact h.map (fun p=>(⟨p.1,p.2.1,p.2.2.1,p.2.2.2.1,p.2.2.2.2.1,p.2.2.2.2.2.1,p.2.2.2.2.2.2.1⟩:Act)) (fun _=>rfl) (fun _=>rfl) (fun p h=>⟨h.2.1,h.2.2.2.2.1⟩)
def ag7(N:Nat): RD enc w (N+7) 22 1 (fun l:List Act=>[tS l]) (fun l=> ∀ a ∈ l,KI a) :=
 Reads.slice EA wB Tryz.underlying22 fc (aji N) cW rfl (fun _=>rfl) (fun _ _ _=>rfl)
def VL{v:Value}{d:DataW H}{ps:List MemPlace}{base:Nat}(hval:Value.okWide Tryz.prog w .any base 22 v)(hd:DataW.Trod enc Tryz.prog w 0 (fun _=>true) true 22 v d ps): ∃ l:List Act,(∀ a ∈ l,KI a)/\VR (aN.all w) w (tS l) v:=by
 obtain⟨a,len,cap,rfl⟩:=Go.WideShapes.okWide_slice Tryz.underlying22 hval
 obtain⟨t,h1,h2⟩:=Reads.deep (fun N=>by
  have:=ag7 (enc:=enc) (w:=w) N;exact⟨this.1,this.2.1,fun f cs x hf hx=>this.2.2 f cs x ae hx⟩) hd
 exact⟨t,h1,h2.2 0 aQ⟩
end
open Go.ChangeShapes Go.WideShapes Go.ChangeAt Go.RowKit
def M0(l:List Act)(hr:∀ a ∈ l,KI a): aS aH 4 [tS l] (.bool true):=Hp I_ l (acz hr)
def own: ownKnob Tryz.prog.godebug=none:=fc
def kids: Kids Tryz.prog (· < Tryz.prog.types.size):=kids_rows fc fc
def full: ∀ t e,t<Tryz.prog.types.size->Tryz.prog.underlying t=some (.slice e)->0<Tryz.prog.cellsOf e:=slices_full_of Tryz.prog fc
def ye: List (String × DataW Unit):=Rows.modelRefusedRow.laid
def On {W : World} {g : Nat} {t : TypeId} {cs : Array Value} {fuel : Nat} {p : List MemPlace} (hg : Tryz.prog.globalNamed "internal/strconv.uint64pow10" = some g) (ht : (Tryz.prog.globals[g]?).map (·.type) = some t) (hv : W.var? Tryz.prog "internal/strconv.uint64pow10" = some cs)
    (hd:DataW.trod (fun _=>()) Tryz.prog W 0 (fun _=>true) false fuel t cs.toList=some (Rows.laid_internal_strconv_uint64pow10,p)):yf (aN.all W) W:=by
 have e:Rows.laid_internal_strconv_uint64pow10=Lib.tabData (H:=Unit) .u64 Lib.pow10Tab:=fc;rw[e]at hd;have hg1:g=1:=Option.some.inj (hg.symm.trans Ou);subst hg1;have hgt:(Tryz.prog.globals[1]?).map (·.type)=some t:=ht;have ht2:(Tryz.prog.globals[1]?).map (·.type)=some 391:=fc;have e3:t=391:=Option.some.inj (hgt.symm.trans ht2);subst e3;have hcs:=Lib.cells_of_tab Tryz.underlying391 Tryz.underlying175 fc fc hd
 have hok:BR W:=by
  show W.var? Tryz.prog "internal/strconv.uint64pow10" = some (Lib.pow10Tab.map fun z => Value.int .u64 z).toArray
  rw[hv,<-hcs]
 refine⟨fun b hb=>?_,hok⟩;simp only[Ra,gj,fO,or_false]at hb;subst hb;have hc:=Lib.TabIs.cell hok hg 0 cW;show 1<W.heap.size;simp only[World.cell?]at hc;split at hc
 ·rename_i x hx;exact(fq.1 hx).1
 ·cases hc
def VK{W:World}(h:laidMetH Tryz.prog ye W): yf (aN.all W) W:=by
 have h:laidMet Tryz.prog ye W:=h
 first
  |(obtain⟨ps,⟨g,t,cs,fuel,p,q,hg,ht,hv,hd,_⟩,_⟩:=h;exact On hg ht hv hd)
  |(obtain⟨ps,⟨_,_,_,_,_,q,_,_,_,_,⟨g,t,cs,fuel,p,q2,hg,ht,hv,hd,_⟩,_⟩,_⟩:=h;exact On hg ht hv hd)
  |(obtain⟨ps,⟨_,_,_,_,_,q,_,_,_,_,⟨_,_,_,_,_,q2,_,_,_,_,⟨g,t,cs,fuel,p,q3,hg,ht,hv,hd,_⟩,_⟩,_⟩,_⟩:=h;exact On hg ht hv hd)
def akJ: DataW Unit->Value
 | .lit (.int k n)=> .int k n
 | _=>Go.undef
def ajj: DataW Unit->Array Value
 | .agg l=>(l.map akJ).toArray
 | _=> #[]
def Oo(d:DataW Unit): Obj->Obj
 | .cells _ t fz=> .cells (ajj d) t fz
 | o=>o
noncomputable def pG (os:Os):World :=
 { World.holding Tryz.prog os ⟨#[],#[],[]⟩with heap:=(((World.holding Tryz.prog os ⟨#[],#[],[]⟩).heap.modify 2 (Oo Rows.laid_math_bits_deBruijn32tab)).modify 3 (Oo Rows.laid_math_bits_deBruijn64tab)).modify 1 (Oo Rows.laid_internal_strconv_uint64pow10) }
def ae_(os:Os)(args:Array Value): laidMetH Tryz.prog ye ((pG os).forCall (fun _ _=>0) ⟨#[],args,[]⟩).memory :=
 (laidMet_of_run' 8 fc fc:laidMet Tryz.prog ye ((pG os).forCall (fun _ _=>0) ⟨#[],args,[]⟩).memory)
set_option maxRecDepth 100000 in
def afc {H : Type} {enc : TypeId × Value -> H} {os : Os} {f : FuncId} {fn : Func} {s : ChangeSpec} (yI : Array Value)
    (started:os.Started) (noInit:Tryz.checked.prog.inits.idxOf? f=none) (hfn:Tryz.checked.prog.funcs[f]? = some fn)
    (hv:((pG os).forCall (fun _ _=>0) ⟨#[],yI,[]⟩).variablesB Tryz.checked.prog=true)
    (hr : (((pG os).forCall (fun _ _ => 0) ⟨#[], yI, []⟩).heap.toList.drop Tryz.checked.prog.globals.size).take ((begin Tryz.checked.prog (fun _ _ => 0) default).world.heap.size - Tryz.checked.prog.globals.size) =
      (begin Tryz.checked.prog (fun _ _=>0) default).world.heap.toList.drop Tryz.checked.prog.globals.size)
    (hok:Input.okWideB Tryz.checked.prog ((pG os).forCall (fun _ _=>0) ⟨#[],yI,[]⟩) f ⟨#[],yI,[]⟩=true)
    (hpre:s.preB enc Tryz.checked.prog fn [] false ((pG os).forCall (fun _ _=>0) ⟨#[],yI,[]⟩).memory yI 8=true)
    (hsz:s.sizedB enc Tryz.checked.prog fn false ((pG os).forCall (fun _ _=>0) ⟨#[],yI,[]⟩).memory yI 8=true)
    (contract : ∀ (W : World) (base : Nat) (args : Array Value) (ds gs : List (DataW H)) (before : List MemPlace),
      (∀(j:Nat) t v,fn.params[j]? = some t->args[j]? = some v->Value.okWide Tryz.prog W .any base t v) ->
      DataW.Whole enc Tryz.prog fn.params.toList s.vars false W args.toList ds gs before->yf (aN.all W) W ->
      Calls Tryz.prog f args W fun e W'=> ∃ v,e = .returned v/\s.post enc Tryz.prog fn false true false false W args v W') :
    ReturnsInHanded {} Tryz.checked os f .any (fun w args=>(s.pre enc Tryz.checked.prog fn [] false w args/\laidMetH Tryz.prog ye w)/\sizedMet enc Tryz.checked.prog fn (OpenSpec.ofChange s) false w args) (s.post enc Tryz.checked.prog fn false true false false):=by
 refine returnsInHanded_of_change_and (C:=Tryz.checked) (X:=fun w _=>laidMetH Tryz.prog ye w) (fun _ _ _ hh h=>h.of_heap hh) own started noInit hfn
  (ChangeSpec.witness_at (enc:=enc) (C:=Tryz.checked) (os:=os) (X:=fun w _=>laidMetH Tryz.prog ye w) false (pG os) yI 8 rfl hv hr hok hpre hsz (ae_ os _)) ?_
 intro W base args ds gs before h1 h2 _ _ hL _;exact contract W base args ds gs before h1 h2 (VK hL)
def ajA{a:AV}{x:Value}{g:aN}{w:World}(h1:VR g w a x): ∀ i,i<[a].length->VR g w ([a].getD i .undef) (#[x].getD i Go.undef):=by
 intro i hi
 match i,hi with
 | 0,_=>exact h1
def ajB{a b:AV}{x y:Value}{g:aN}{w:World}(h1:VR g w a x)(h2:VR g w b y): ∀ i,i<[a,b].length->VR g w ([a,b].getD i .undef) (#[x,y].getD i Go.undef):=by
 intro i hi
 match i,hi with
 | 0,_=>exact h1
 | 1,_=>exact h2
def afa(P:Program)(h:P.funcs.any Func.goes=false)(f:FuncId): P.goes f=false:=by
 unfold Program.goes;rw[h,h_,Bool.or_false,List.any_eq_false];intro g _;cases hg:P.funcs[g]? with
 | none=>simp
 | some fn =>
   rw[Array.any_eq_false]at h;obtain⟨hl,rfl⟩:=fq.1 hg;simpa using h g hl
def KS(P:Program)(h:P.funcs.any Func.goes=false)(c:OpenClaim)(hs:c.start = .entering): false=c.goesBy P:=by
 unfold OpenClaim.goesBy Program.goesAt Program.goesFrom;rw[hs];cases P.funcNamed c.func with
 | none=>rfl
 | some f=>show false=(P.goes f || false);rw[afa P h];rfl
def Oq: Tryz.pinned.checked.prog.funcs.any Func.goes=false:=fc
def VM: laidOutB Tryz.checked.prog=true:=fc
def VN: mapsRowed Tryz.checked.prog=true:=fc
def Ru: Tryz.checked.prog.stopsHeard=true:=fc
def Rv: Tryz.checked.prog.mayEnter=true:=fc
noncomputable def Qq (M:Mo) (i:Nat):Mk:=⟨M.mark.base,M.mark.base+i,M.mark.anchor,kQ M.mark.anchor ((gu M.es).take i)⟩
def ajk{M:Mo}(ok:oO M){i:Nat}(hi:i<=M.es.length): CU (Qq M i):=by
 obtain⟨g1,g2,g3,g4,g5,g6⟩:=ok.xI;have hen:=ok.en;have hct:=ok.ct;refine⟨g1,by dsimp only[Qq];omega,by dsimp only[Qq];omega,g4,Eh _ _ g4,fun e=>?_⟩;have h0:i=0:=by dsimp only[Qq]at e;omega
 subst h0;rfl
def afb(M:Mo){i:Nat}(hi:i<M.es.length): j7 (Qq M i) (gM (M.es.getD i default)).1=Qq M (i+1):=by
 have h1:=BP (gu M.es) M.mark.anchor i (by rw[nr];exact hi)
 have h2:(gu M.es).getD i default=(gM (M.es.getD i default)).1:=by
  unfold gu;rw[aq,fP,aq,aG hi];rfl
 rw[h2]at h1;unfold j7 Qq;dsimp only;rw[h1]
 congr 1
 omega
def Fe(hlv:aS aH 7 [] (.bool true))(l:List Act)(k:Int)(hrk:nM k)(hok:zR l=true-> ∀ a ∈ l,HW a): aS aH 5 [tS l,I k] (.bool true):=by
 have c0:=Qk l;refine a_ Bl ?_ (by simp[tS,AV.dy,AV.cG,fm _ _ KH]);intro Q aJ aK aL;cases hf:zR l with
 | false =>
   rw[hf]at c0;repeat' first|refine aB ?_|refine eU c0 ?_|refine aA ?_ ?_<;>intro hw<;>try omega|fail
   all_goals exact aZ rfl rfl
 | true =>
   rw[hf]at c0;have hok:=hok hf;have h30:l.length<=30:=by simp[zR]at hf;exact hf.1
   unfold tS at c0 |-;repeat' first|refine aB ?_|refine eU c0 ?_|refine aA ?_ ?_<;>intro hw<;>try omega|fail
   refine bP (Rt _) ?_;rintro o S1 ⟨rfl,wY,Lb⟩;have anm:=wY.ne;generalize ([]:ai).length+1=p1 at *;generalize ([]:ai).length=q1 at *;repeat' first|refine aB ?_|refine aA ?_ ?_<;>intro hw<;>try omega|fail
   with_reducible refine bE [6,1,32,12] (fun x:Nat × ai × Mo=>[(6,I x.1)]) (fun x=>x.2.1) (fun x=>x.1<=l.length/\jQ x.2.1 p1 q1 x.2.2/\oO x.2.2/\qb x.1 x.2.2) (fun x=>l.length-x.1) ((0,S1,mE)) ?_ ?_ ?_ ?_
   ·exact⟨aQ,wY,zS.1,zS.2⟩
   ·rfl
   ·exact at_
   rintro⟨i,S,M⟩ r ⟨hi,h1,ok,bd⟩;dsimp only at hi h1 ok bd;by_cases kK:i<l.length
   ·have hg:(l.map wB).getD i .undef=wB (l.getD i default):=getD_map _ _ _ kK;have Xt:=hok _ (bq kK);generalize l.getD i default=a at *;obtain⟨ok',bd'⟩:=aco ok bd ae a Xt;repeat' first|refine cz hg ?_|refine aB ?_|refine aA ?_ ?_<;>intro hw<;>try omega|fail
    refine bP (KG h1 ok a Xt) ?_;rintro o S4 ⟨rfl,h1b,hkb⟩;repeat' first|refine aB ?_|refine aA ?_ ?_<;>intro hw<;>try omega|fail
    refine⟨(i+1,S4,(A8 M a).1),?_,?_,?_,da,?_⟩
    ·exact⟨Nat.succ_le_of_lt kK,h1b,ok',bd'⟩
    ·dsimp only;omega
    ·rfl
    exact at_
   obtain rfl:i=l.length:=ae;repeat' first|refine aB ?_|refine aA ?_ ?_<;>intro hw<;>try omega|fail
   refine bP (acq h1 (by have:=ok.en;omega)) ?_;rintro o S3 ⟨rfl,hw,Uv⟩;have hS1:=h1.lt;have WM:=h1.keep Uv;have hwl:=hw.lt;have hpw:S.length+1≠p1/\S.length+1≠q1/\S.length≠p1/\S.length≠q1:=ae;generalize S.length+1=pw at *;generalize S.length=qw at *;have m1:kq aH 10 [.ref pw 0] S3 (.bU [.agg [I M.mark.base,I M.mark.count,.str M.mark.anchor,.str M.mark.head],I 0]):=sC hw;repeat' first|refine aB ?_|with_reducible refine fC m1 ?_|refine aA ?_ ?_<;>intro hw<;>try omega|fail
   have h1l:=WM.lt;have tA:=fun s=>cR (ok.toUr.len s) (by omega:1000000<=2^60)
   have hs:∀ s ∈ M.vs.map (·.1),s.length<=1000000:=fun s hs=>by
    obtain⟨x,hx,e⟩:=cI.1 hs;subst e;exact(ok.vs x hx).2.1
   have hen:=ok.en;have hel:=ok.el;have oc:=Em ok bd k;have Aj:=fun T:ai=>Qo (WM.keep (eD.app S3 T)) ok k;by_cases hkk:M.mark.base<=k/\k<=M.mark.count
   ·have hC:qa M k=(⟨M.vs,sN M.mark (gu M.es) k,M.es.drop (k-M.mark.base).toNat⟩,0):=au hkk;obtain⟨Lb,kI⟩:=hkk;rw[hC]at oc Aj;refine bP (Aj _) ?_;refine fun o S4 hh=>?_;have eo:=And.left hh;have h1c:=And.left (And.right hh);have hkc:=And.right (And.right hh);subst eo;clear hh;have hA:=hkc S3.length _ (jO S3 _) ae ae;have Uw:jQ S4 pw qw M:=(hw.keep (eD.app S3 _)).HX hkc ae ae ae ae;generalize S3.length=pa at *;have hAk:=fun T:ai=>(eD.app S4 T) _ _ hA;have m2:kq aH 10 [.ref p1 0] S4 (.bU [.agg [I k,I M.mark.count,.str (kQ M.mark.anchor ((gu M.es).take (k-M.mark.base).toNat)),.str M.mark.head],I 0]):=sC h1c;have ok':=oc.1;have g1:=fun T=>uz (Uw.keep (eD.app S4 T)) ok.xI ok.el ae M.mark.base (k-M.mark.base) ae ok.xI.bc ae;have g2:=fun T=>uz (Uw.keep (eD.app S4 T)) ok.xI ok.el ae k 1000 ae ae ae;have g3:=fun T=>uz (h1c.keep (eD.app S4 T)) ok'.xI ok'.el (by have:=ok'.en;omega) k 1000 (by show k<=k;omega) (by show k<=M.mark.count;omega) ae
    have l1:zQ M M.mark.base (k-M.mark.base)=M.es.take (k-M.mark.base).toNat:=by
     unfold zQ;rw[Int.sub_self];rfl
    have l2:zQ M k 1000=M.es.drop (k-M.mark.base).toNat:=by
     unfold zQ;exact bG (by rw[dJ];omega)
    have l3:zQ ⟨M.vs,sN M.mark (gu M.es) k,M.es.drop (k-M.mark.base).toNat⟩ k 1000=M.es.drop (k-M.mark.base).toNat:=by
     unfold zQ;show((M.es.drop (k-M.mark.base).toNat).drop (k-k).toNat).take 1000=_;rw[Int.sub_self];exact bG (by rw[Int.toNat_zero,eO,dJ];omega)
    rw[l1]at g1;rw[l2]at g2;rw[l3]at g3;have n1a:=fun T=>yH (h1c.keep (eD.app S4 T)) ok.nd ok.vn hs tA;have n2:=fun T=>yH (Uw.keep (eD.app S4 T)) ok.nd ok.vn hs tA;have n1:∀ T:ai,kq aH 22 [.ref p1 0] (S4++T) (.bU [KD (kY M),I 0]):=n1a;clear n1a;have e1:=rS (M.es.drop (k-M.mark.base).toNat) (fun e he=>ok.ee e (ju he)) (by rw[dJ];omega);have e2:=vu (kY M) (by simp[kY,A7];have:=ok.vn;omega);have hAn:(M.es.take (k-M.mark.base).toNat).length=(k-M.mark.base).toNat:=by rw[dW];omega
    have hAg:∀ i,i<(k-M.mark.base).toNat->(M.es.take (k-M.mark.base).toNat).getD i default=M.es.getD i default:=fun i hi=>by
     rw[aq,List.getElem?_take_of_lt hi,<-aq]
    have hnl:(k-M.mark.base).toNat<=M.es.length:=ae;have hct:=ok.ct;simp only[KD,nL]at g1 g2 g3 n1 n2 e1 e2;generalize kY M=NL at *;generalize M.es.take (k-M.mark.base).toNat=AH at *;generalize M.es.drop (k-M.mark.base).toNat=RE at *;generalize (k-M.mark.base).toNat=n at *;repeat' first|simp (disch:=omega) only[go_sem,aJ,aK,aL,hA,hAk,lB,jO,k_,kC,bO,bH,dO,eA,bK,bS,aT,cJ]|refine aB ?_|with_reducible refine fC m2 ?_|with_reducible refine fC (g1 _) ?_|with_reducible refine fC (g2 _) ?_|with_reducible refine fC (g3 _) ?_|refine aA ?_ ?_<;>intro hw<;>try omega|fail
    with_reducible refine bE [20,3,153,20] (fun i:Nat=>[(20,I i)]) (fun i=>S4++[aY.cells [I k,I M.mark.count,.str (kQ M.mark.anchor ((gu M.es).take n)),.str M.mark.head],aY.cells [I M.mark.base,I (M.mark.base+i),.str M.mark.anchor,.str (kQ M.mark.anchor ((gu M.es).take i))]]) (fun i=>i<=n) (fun i=>n-i) (0) ?_ ?_ ?_ ?_
    ·simp
    ·simp[kQ]
    ·exact at_
    rintro i r hi;try dsimp only at hi
    by_cases kK:i<n
    ·have hm:M.es.getD i default ∈ M.es:=bq ae;have b1:=BM _ (ok.ee _ hm);have c5:=MU (ajk ok (by omega:i<=M.es.length)) (by show M.mark.base+(i:Int)<1125899906842624;omega) (gM (M.es.getD i default)).1 (tD (ok.be _ hm));rw[afb M ae]at c5;simp only[xF,Qq]at c5;have hag:=hAg i kK;have hgg:(AH.map jY).getD i .undef=jY (M.es.getD i default):=by rw[<-hag];exact getD_map _ _ _ ae
     generalize gM (M.es.getD i default)=B at *;obtain⟨bs,be⟩:=B;simp only[jY,nJ,bu,eN,eX,Xj]at b1 hgg;dsimp only at c5;repeat' first|simp (disch:=omega) only[go_sem,aJ,aK,aL,hag,hgg,hAn,hA,hAk,lB,jO,k_,kC,bO,bH,dO,eA,bK,bS,aT,cJ]|refine aB ?_|refine aA ?_ ?_<;>intro hw<;>try omega|fail
     refine⟨i+1,?_,?_,?_,da,?_⟩
     ·dsimp only;omega
     ·dsimp only;omega
     ·rfl
     exact at_
    obtain rfl:i=n:=ae;repeat' first|simp (disch:=omega) only[go_sem,aJ,aK,aL,hAn,hA,hAk,lB,jO,k_,kC,bO,bH,dO,eA,bK,bS,aT,cJ]|refine aB ?_|with_reducible refine fC (n1 _) ?_|with_reducible refine fC (n2 _) ?_|refine aA ?_ ?_<;>intro hw<;>try omega|fail
    all_goals exact aZ rfl rfl
   have hC:qa M k=(M,22):=aj hkk;rw[hC]at Aj;refine bP (Aj _) ?_;refine fun o S4 hh=>?_;have eo:=And.left hh;have h1c:=And.left (And.right hh);have hkc:=And.right (And.right hh);subst eo;clear hh;have hA:=hkc S3.length _ (jO S3 _) ae ae;have Uw:jQ S4 pw qw M:=(hw.keep (eD.app S3 _)).HX hkc ae ae ae ae;generalize S3.length=pa at *;have hAk:=fun T:ai=>(eD.app S4 T) _ _ hA;have m2:kq aH 10 [.ref p1 0] S4 (.bU [.agg [I M.mark.base,I M.mark.count,.str M.mark.anchor,.str M.mark.head],I 0]):=sC h1c;have hsame:=fun T=>Ek (h1c.keep (eD.app S4 T)) (Uw.keep (eD.app S4 T)) ok.toUr;repeat' first|simp (disch:=omega) only[go_sem,aJ,aK,aL,hA,hAk,lB,jO,k_,kC,bO,bH,dO,eA,bK,bS,aT,cJ]|refine aB ?_|with_reducible refine fC m2 ?_|with_reducible refine fC (hsame _) ?_|refine aA ?_ ?_<;>intro hw<;>try omega|fail
   all_goals exact aZ rfl rfl
def KU(l:List Act)(k:Int)(hr:∀ a ∈ l,KI a)(hk:nM k): aS aH 5 [tS l,I k] (.bool true):=Fe I_ l k hk (acz hr)
