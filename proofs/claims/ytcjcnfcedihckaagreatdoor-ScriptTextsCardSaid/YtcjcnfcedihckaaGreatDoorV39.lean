/- Part. -/
import Derived.Test.YtcjcnfcedihckaaGreatDoorV38
import Derived.WalkKit
import Derived.ProofKit
import Derived.OpenShut
import Derived.ReadAgain
import Derived.Deep.SlicePairs
import Derived.Test.YtcjcnfcedihckaaGreatDoorRows
import Derived.SevenTiedAt
import Derived.LaidLaws
import Derived.LaidHandle
import Derived.Lib.LaidTab
set_option linter.all false
set_option maxHeartbeats 4000000
namespace Go.Proofs.YtcjcnfcedihckaaGreatDoor
open Go.AM
set_option maxRecDepth 4000
abbrev sQ: aG:=[108,111,103,32,50,32,53]
def Wt: aH aE 64 [.str rY] (.bJ [dF n9,.bool true]):=by
 have c1:=tC rY 32 (by decide);have e1:eP 32 rY=(rY,[],false):=by decide
 rw[e1]at c1;have p1:=oQ (((0:Nat):Int)+1);have p2:=oQ (((1:Nat):Int)+1);have p3:=oQ (((2:Nat):Int)+1);have p4:=oQ (((3:Nat):Int)+1);have e2:lB (((0:Nat):Int)+1)=[]:=rfl;have e3:lB (((1:Nat):Int)+1)=[]:=rfl;have e4:lB (((2:Nat):Int)+1)=[]:=rfl;have e5:lB (((3:Nat):Int)+1)=rY:=rfl;rw[e2]at p1;rw[e3]at p2;rw[e4]at p3;rw[e5]at p4;simp only[Fp]at c1;refine aJ Ad ?_;intro Q au aA aB;repeat' first|refine aq ?_|refine ak ?_ ?_<;>intro hw<;>try omega|fail
 all_goals first|exact bh|skip
 with_reducible refine bn [3,7,39,40,41,42,43,44,45,46,47,48,49,50,51,52] (fun q:Nat=>[(7,I ((q:Int)+1))]) (fun _=>[.cells [I 0,.str [],.ai,.ai,I 0,I 0,.ai,.str [],I 0,.ai,I 0,I 0]]) (fun q=>q<=3) (fun q=>3-q) (0) ?_ ?_ ?_ ?_
 ·exact bD _
 ·rfl
 ·exact at_
 rintro q r g1;have hq:q=0\/q=1\/q=2\/q=3:=by omega
 rcases hq with rfl|rfl|rfl|rfl
 ·repeat' first|refine aq ?_|refine ak ?_ ?_<;>intro hw<;>try omega|fail
  all_goals first|exact bh|skip
  refine⟨1,?_,?_,by first|rfl|(simp[go_sem];done),bL,at_⟩<;>(try dsimp only)
  ·decide
  ·decide
 ·repeat' first|refine aq ?_|refine ak ?_ ?_<;>intro hw<;>try omega|fail
  all_goals first|exact bh|skip
  refine⟨2,?_,?_,by first|rfl|(simp[go_sem];done),bL,at_⟩<;>(try dsimp only)
  ·decide
  ·decide
 ·repeat' first|refine aq ?_|refine ak ?_ ?_<;>intro hw<;>try omega|fail
  all_goals first|exact bh|skip
  refine⟨3,?_,?_,by first|rfl|(simp[go_sem];done),bL,at_⟩<;>(try dsimp only)
  ·decide
  ·decide
 ·repeat' first|refine aq ?_|refine ak ?_ ?_<;>intro hw<;>try omega|fail
  all_goals first|exact bh|exact bG (bf.cons (qB (c:=n9) (.ai _) (.ai _) (.ai _) (.ai _)) (bf.refl rfl))|skip
def Yp: fF [50]=(2,true):=by
 unfold fF;have:Lib.atoiAll [50] = .ok 2:=by rfl
 rw[this];dsimp only;rw[UK,if_pos rfl]
def Yq: fF [53]=(5,true):=by
 unfold fF;have:Lib.atoiAll [53] = .ok 5:=by rfl
 rw[this];dsimp only;rw[UL,if_pos rfl]
def UW: qQ 5 sQ 2=(pG,true):=by
 have h:cM sQ 3=([rZ,[50],[53]],[],true):=by decide
 unfold qQ;rw[h];have g1 : [rZ,[50],[53]].getD 1 []=[50]:=rfl;have g2 : [rZ,[50],[53]].getD 2 []=[53]:=rfl;dsimp only;rw[g1,g2,Yp,Yq];rfl
def Yr: aH aE 64 [.str sQ] (.bJ [dF pG,.bool true]):=by
 have c1:=tC sQ 32 (by decide);have e1:eP 32 sQ=(rZ,[50,32,53],true):=by decide
 rw[e1]at c1;have c4:aH aE 110 [I 5,.str sQ,I 2] _:=Lt 5 sQ 2 (.inr rfl) (by decide);rw[UW]at c4;simp only[Fp,dF,fE]at c1 c4;simp only[dF,fE];refine aJ Ad ?_;intro Q au aA aB;repeat' first|refine aq ?_|refine ak ?_ ?_<;>intro hw<;>try omega|fail
 all_goals first|exact bh|exact bG jq|skip
abbrev cR(o:AV): bx:= .cells [o,I 0,.str [],.ai,.ai,I 0,I 0,.ai]
def aaw: dK aE 28 [.ref 0 0,.str rY] [cR .ai] fun o' S'=>o' = .ret (.bool true)/\S'=[cR (.own EM 2 1 0 1),.cells (fE n9),.vec EM [dF n9]]:=by
 have c0:=strings_HasPrefix rY Hv;have e0:Hv.isPrefixOf rY=false:=by decide
 rw[e0]at c0;have c1:=Wt;have c2:=uc n9 NP;rw[UJ]at c2;have c3:=wj n9 (s_ NP UJ);rw[UM]at c3;simp only[dF,fE,bI,aR,bu]at c1 c2 c3;refine qI.go ?_;unfold dS;intro Q au aA aB;repeat' first|simp (disch:=omega) only[go_sem,au,aA,aB,Bool.false_eq_true,if_false,Option.map_none,cS]|refine aq ?_|refine d_ c0 ?_|refine ak ?_ ?_<;>intro hw<;>try omega|fail
 all_goals first|exact⟨rfl,trivial⟩|exact⟨rfl,rfl⟩|exact bh|skip
def aax: dK aE 28 [.ref 0 0,.str sQ] [cR (.own EM 2 1 0 1),.cells (fE n9),.vec EM [dF n9]] fun o' S'=>o' = .ret (.bool true)/\S'=[cR (.own EM 2 2 0 2),.cells (fE n9),.vec EM [dF n9,dF pG],.cells (fE pG)]:=by
 have c0:=strings_HasPrefix sQ Hv;have e0:Hv.isPrefixOf sQ=false:=by decide
 rw[e0]at c0;have c1:=Yr;have c2:=uc pG yE;rw[CA]at c2;have c3:=wj pG (s_ yE CA);rw[Kz]at c3;simp only[dF,fE,bI,aR,bu]at c1 c2 c3;refine qI.go ?_;unfold dS;intro Q au aA aB;repeat' first|simp (disch:=omega) only[go_sem,au,aA,aB,Bool.false_eq_true,if_false,Option.map_none,cS]|refine aq ?_|refine d_ c0 ?_|refine ak ?_ ?_<;>intro hw<;>try omega|fail
 all_goals first|exact⟨rfl,trivial⟩|exact⟨rfl,rfl⟩|exact bh|skip
def sfx: Nat->aG
 | 0=>sP
 | 1=>sB
 | _=>[]
def stp: Nat->ae
 | 0=>[cR .ai]
 | 1=>[cR (.own EM 2 1 0 1),.cells (fE n9),.vec EM [dF n9]]
 | _=>[cR (.own EM 2 2 0 2),.cells (fE n9),.vec EM [dF n9,dF pG],.cells (fE pG)]
def Wu: aH aE 14 [.str sP] (.bJ [lH [n9,pG],I 0,I 0]):=by
 have c1:=tC sP 10 (by decide);have e1:eP 10 sP=(rY,sB,true):=by decide
 rw[e1]at c1;have c2:=tC sB 10 (by decide);have e2:eP 10 sB=(sQ,[],true):=by decide
 rw[e2]at c2;have l1:=aaw;have l2:=aax;simp only[dF,fE]at l2;simp only[Fp]at c1 c2;refine aJ F8 ?_;intro Q au aA aB;repeat' first|refine aq ?_|refine ak ?_ ?_<;>intro hw<;>try omega|fail
 all_goals first|exact bh|skip
 with_reducible refine bn [0,6,7,8,9,15,16,17,18,19,20,21,22,23,24,25,26,27,28,29,30,31,32,33] (fun x:Nat=>[(0,.str (sfx x)),(6,I ((x:Int)+1))]) stp (fun x=>x<=2) (fun x=>2-x) 0 (by decide) rfl ?_ ?_
 ·show At [(0,.str sP),(6,I 1)] _;exact at_
 rintro x rr g1;have hx:x=0\/x=1\/x=2:=by omega
 rcases hx with rfl|rfl|rfl;all_goals simp only[sfx,stp]
 ·repeat' first|refine aq ?_|with_reducible refine bU l1 ?_|refine ak ?_ ?_<;>intro hw<;>try omega|fail
  all_goals first|exact bh|skip
  rintro o' S' ⟨rfl,rfl⟩;repeat' first|refine aq ?_|refine ak ?_ ?_<;>intro hw<;>try omega|fail
  refine⟨1,by decide,by decide,rfl,bL,?_⟩;show At [(0,.str sB),(6,I 2)] _;exact at_
 ·repeat' first|refine aq ?_|with_reducible refine bU l2 ?_|refine ak ?_ ?_<;>intro hw<;>try omega|fail
  all_goals first|exact bh|skip
  rintro o' S' ⟨rfl,rfl⟩;repeat' first|refine aq ?_|refine ak ?_ ?_<;>intro hw<;>try omega|fail
  refine⟨2,by decide,by decide,rfl,bL,?_⟩;show At [(0,.str []),(6,I 3)] _;exact at_
 ·repeat' first|refine aq ?_|refine ak ?_ ?_<;>intro hw<;>try omega|fail
  all_goals first|exact bh|exact bG (gX (View.vec rfl rfl rfl (by simp)))|skip
def N7: aH aE 8 [] (.bool true):=by
 have c1:=DY [pG] (by decide) (fun c hc=>by rw[List.mem_singleton.1 hc];exact yE) (fun c hc h=>by rw[List.mem_singleton.1 hc];exact⟨s_ yE CA,Fu yE CA⟩);have c2:=Wu;rw[UN]at c1
 have hok:∀ c ∈ [n9,pG],jX c:=fun c hc=>by
  rcases List.mem_cons.1 hc with rfl|hc
  ·exact NP
  ·rw[List.mem_singleton.1 hc];exact yE
 have c3:=Lr [n9,pG] [n9,pG] (by decide) (by decide) hok hok;rw[Wq]at c3;have c4:aH aE 12 [.str [97,32,124,32,34,124,34],.int .u8 124] (bI (iZ [97,32,124,32,34,124,34] 124)):=wh [97,32,124,32,34,124,34] 124 (by decide);have hl:=Wr;generalize iZ [97,32,124,32,34,124,34] 124=L at *;simp only[bI]at c4;simp only[eB,eP3,lH,aR,bu,dF,fE,pG,n9,mB,fh]at c1 c2 c3;refine aJ Ic ?_;intro Q au aA aB;repeat' first|simp (disch:=omega) only[go_sem,au,aA,aB,hl]|refine aq ?_|refine Tr c1 ?_|refine Tr c3 ?_|refine ak ?_ ?_<;>intro hw<;>try omega|fail
 all_goals first|exact bh|exact eT jq|skip
def AL(l:List fy)(s:aG)(n:Int)(hr:∀ c ∈ l,yD c)(hn:0<=n/\n<=255): aH aE 3 [lH l,.str s,.int .u8 n] (.bool true):=by
 obtain⟨y,rfl⟩:=Yo hn;have c0:=N7;have cf:=Uq l;by_cases aay:Fj l=true/\s.length<=1000
 case neg =>
  generalize Fj l=b at *;simp only[lH]at cf ⊢;refine aJ rj ?_;intro Q au aA aB;cases b
  all_goals
   repeat' first|refine aq ?_|refine d_ c0 ?_|refine ak ?_ ?_<;>intro hw<;>try omega|fail
  all_goals first|exact bh|exact aL rfl rfl|(exfalso;exact aay ⟨rfl,by omega⟩)
 obtain⟨hf,hs⟩:=aay;rw[hf]at cf;obtain⟨h70,ok⟩:=Yf hf hr;have c1:=Yi l (by omega) ok;have c2:=Sn l (by omega) ok;have c3:=wh s y (by omega);have c4:=Pn s y (by omega);have hp:=(Kw s y).1;have c5:=rR (iZ s y) (iZ s y) (by omega) (by omega);rw[qA _ (fun x _=>by simp)]at c5;generalize iZ s y=P at *;generalize n_ l=T at *;obtain⟨a,e⟩:=T;simp only[bI,lH,eB]at c1 c2 c3 c4 c5 cf ⊢;refine aJ rj ?_;intro Q au aA aB;repeat' first|refine aq ?_|refine d_ c0 ?_|refine ak ?_ ?_<;>intro hw<;>try omega|fail
 all_goals first|exact bh|exact eT jq|skip
end Go.Proofs.YtcjcnfcedihckaaGreatDoor
namespace Go.AM
open Go.ChangeShapes Go.WideShapes
section
variable {H:Type} {enc:TypeId × Value->H} {P:Program} {w w':World} {base:Nat} {spare:Nat->Bool} {held:Bool}
def sv: ∀ {ts:List TypeId} {vs:List Value} {ds:List (DataW H)} {ps:List MemPlace},DataW.TrodAll enc P w base spare held ts vs ds ps->(∀ p ∈ ps,w.sameAt w' p)->DataW.TrodAll enc P w' base spare held ts vs ds ps
 | [],[],[],_,h,_=>h
 | _::_,_::_,_::_,_,⟨p,q,⟨n,hn⟩,h2,e⟩,hs=>⟨p,q,⟨n,DataW.trod_carry n _ _ _ hn (fun x hx=>hs x (by rw[e];exact e7 _ hx))⟩,sv h2 (fun x hx=>hs x (by rw[e];exact List.mem_append_right _ hx)),e⟩
def HK{may:MemPlace->Prop}(h1:w'.os=w.os)(h2:w'.output=w.output)(h3:∀ b,b<w.heap.size->w'.heap[b]? = w.heap[b]?): w.keptBut w' may:=by
 refine⟨h1,h2,fun i hi=>?_⟩;rw[h3 i hi];split
 ·rename_i a b ha hb;rw[ha]at hb;cases Option.some.inj hb;exact⟨rfl,rfl,rfl,fun _ _=>rfl⟩
 ·rename_i a b ha hb;rw[ha]at hb;cases Option.some.inj hb;exact .inr ⟨rfl,rfl⟩
 ·rfl
def Jl(h3:∀ b,b<w.heap.size->w'.heap[b]? = w.heap[b]?){p:MemPlace}(hp:p.block<w.heap.size): w.sameAt w' p:=by
 cases p with
 | cell b off=>exact lN (h3 b hp) off none
 | map b=>exact h3 b hp
def aM.all(w:World): aM:=aM.bare (· < w.heap.size)
def KA {f : FuncId} {fn : Func} {s : ChangeSpec} {t : TypeId} {args' : List AV} {W : World} {args : Array Value} {ds gs : List (DataW H)} {before : List MemPlace}
    (h:aH P f args' (.bool true)) (hW:DataW.Whole enc P fn.params.toList s.vars false W args.toList ds gs before) (hG:wz (aM.all W) W)
    (K:Kids P (· < P.types.size)) (hz:∀ t e,t<P.types.size->P.underlying t=some (.slice e)->0<P.cellsOf e) (hps:∀ t ∈ fn.params.toList,t<P.types.size)
    (hvars:s.vars=[]) (Xc:fn.resultTypes = #[t]) (ht:P.underlying t=some .bool) (hfn:s.fn H (ds++gs) = { results:=[.lit (.bool true)],args:=ds,vars:=[] })
    (hl:args'.length=args.size) (hv:∀ i,i<args'.length->VR (aM.all W) W (args'.getD i .undef) (args.getD i Go.undef)) :
    Calls P f args W fun e W'=> ∃ v,e = .returned v/\s.post enc P fn false true false false W args v W':=by
 refine((h []).2 (aM.all W) W args (Rel.bare (fun _ h=>h) hG) hl hv).mono ?_;rintro e W' ⟨out,g',σ',hR,hE,hO,rfl,rfl⟩;have hfr:∀ b,b<W.heap.size->W'.heap[b]? = W.heap[b]?:=fun b hb=>hE.frame b hb jl;cases e with
 | panicked c=>exact hO.elim
 | outgrown=>exact hO.elim
 | returned v =>
   have hb:v = .bool true:=by cases hO;rfl
   subst hb;refine⟨_,rfl,ds,gs,before,[],before,[],hW,?_,?_,?_,HK hE.os hE.output hfr,fun h=>by cases h⟩
   ·rw[hfn,Xc];exact trodAll_mk1 (RowKit.shut_bool ht true)
   ·rw[hfn];have hlt:=hW.lt;obtain⟨p,q,h1,h2,rfl,_,_⟩:=hW;rw[hvars]at h2;obtain⟨rfl,rfl⟩:=trodVars_none h2;rw[List.append_nil]at hlt ⊢;refine sv (DataW.TrodAll.respare K hz hps h1 (fun x hx=>by simpa using hlt x hx)) (fun x hx=>Jl hfr (hlt x hx))
   ·rw[hfn,hvars];rfl
def VR.string{g:aM}{w:World}(s:ByteArray): VR g w (.str s.data.toList) (.string s):=VR.str s.data.toList
end
end Go.AM
namespace Go.AM
open Go.ChangeShapes Go.WideShapes
def qS(g:aM)(w:World)(az:List AV)(vs:List Value): Prop:=az.length=vs.length/\ ∀ i,i<az.length->VR g w (az.getD i .undef) (vs.getD i Go.undef)
def qS.nil(g:aM)(w:World): qS g w [] []:=⟨rfl,fun i hi=>by cases hi⟩
def qS.app{g:aM}{w:World}{a b:List AV}{x y:List Value}(h:qS g w a x)(k:qS g w b y): qS g w (a++b) (x++y):=by
 have h1:=h.1;refine⟨by simp[h.1,k.1],fun i hi=>?_⟩;rw[aC]at hi;by_cases hl:i<a.length
 ·have:=h.2 i hl;rw[aj,aj]at this ⊢;rw[aN hl,aN (by omega)];exact this
 ·have:=k.2 (i-a.length) (by omega);rw[aj,aj]at this ⊢;rw[cB (by omega),cB (by omega),<-h1];exact this
def qS.one{g:aM}{w:World}{a:AV}{x:Value}(h:VR g w a x): qS g w [a] [x]:=⟨rfl,fun i hi=>by
 match i,hi with
 | 0,_=>exact h⟩
def qS.agg{g:aM}{w:World}{az:List AV}{vs:Array Value}(h:qS g w az vs.toList)(hs:az.all AV.scalar=true): VR g w (.agg az) (.agg vs):=by
 refine .agg az vs (by simpa using h.1) hs (fun i hi=>?_);have:=h.2 i hi;simpa[aj,fT]using this
section
variable {H:Type} {enc:TypeId × Value->H} {P:Program} {w:World}
def Reads(enc:TypeId × Value->H)(P:Program)(w:World)(N:Nat)(t:TypeId)(n:Nat){α : Type}(E : α->List AV)(G : α->Prop): Prop :=
 P.cellsOf t=n/\(∀ a,(E a).length=n)/\ ∀ fuel cs x,fuel<=N->DataW.trod enc P w 0 (fun _=>true) true fuel t cs=some x-> ∃ a,G a/\qS (aM.all w) w (E a) cs
def Reads.weak{N t n:Nat}{α : Type}{E : α->List AV}{G G' : α->Prop}(h:Reads enc P w N t n E G)(hg:∀ a,G a->G' a): Reads enc P w N t n E G' :=
 ⟨h.1,h.2.1,fun f cs x hf hx=>by obtain⟨a,h1,h2⟩:=h.2.2 f cs x hf hx;exact⟨a,hg a h1,h2⟩⟩
def Reads.map{N t n:Nat}{α β : Type}{E : α->List AV}{G : α->Prop}{E' : β->List AV}{G' : β->Prop}(h:Reads enc P w N t n E G)(f : α-> β)(hE:∀ a,E' (f a)=E a)(hl:∀ b,(E' b).length=n)(hg:∀ a,G a->G' (f a)): Reads enc P w N t n E' G' :=
 ⟨h.1,hl,fun fu cs x hf hx=>by obtain⟨a,h1,h2⟩:=h.2.2 fu cs x hf hx;exact⟨f a,hg a h1,by rw[hE];exact h2⟩⟩
def Reads.int{N t:Nat}(ht:P.underlying t=some (.int .i64))(hc:P.cellsOf t=1): Reads enc P w N t 1 (fun n:Int=>[.int .i64 n]) (fun n=> -9223372036854775808<=n/\n<=9223372036854775807) :=
 ⟨hc, fun _ => rfl, fun f cs x _ hx => by
   obtain⟨n,rfl,_,wf⟩:=DataW.trod_int ht hx;exact⟨n,by simpa[Lit.wf,IntKind.min,IntKind.max,IntKind.signed,IntKind.bits]using wf,qS.one (.int _ _)⟩⟩
def Reads.str{N t:Nat}(ht:P.underlying t=some .string)(hc:P.cellsOf t=1): Reads enc P w N t 1 (fun s:List UInt8=>[.str s]) (fun _=>True) :=
 ⟨hc, fun _ => rfl, fun f cs x _ hx => by
   obtain⟨s,rfl,_,_⟩:=DataW.trod_string ht hx;exact⟨s.data.toList,trivial,qS.one (VR.string s)⟩⟩
def Reads.bool{N t:Nat}(ht:P.underlying t=some .bool)(hc:P.cellsOf t=1): Reads enc P w N t 1 (fun b:Bool=>[.bool b]) (fun _=>True) :=
 ⟨hc, fun _ => rfl, fun f cs x _ hx => by
   obtain⟨b,rfl,_⟩:=DataW.trod_bool ht hx;exact⟨b,trivial,qS.one (.bool b)⟩⟩
def Reads.slice {N t e n : Nat} {α : Type} [Inhabited α] {E : α -> List AV} {G : α -> Prop} (el : El) (mk : α -> AV) (ht : P.underlying t = some (.slice e)) (hc : P.cellsOf t = 1) (h : Reads enc P w N e n E G) (PB : 0 < n) (hsz : el.sz = n)
    (hfit:∀ a,(mk a).fits el=true) (hcell:∀ a c,c<n->(mk a).cell c=(E a).getD c .undef):Reads enc P w (N+1) t 1 (fun l:List α=>[.aF false el (l.map mk)]) (fun l=> ∀ a ∈ l,G a):=by
 refine⟨hc,fun _=>rfl,fun fuel cs x hf hx=>?_⟩;rcases DataW.trod_slice ht hx with⟨rfl,rfl⟩|⟨a,len,cap,elems,rest,k,hk,rfl,_,_,hl,_,hlen,hel,_,_⟩
 ·exact⟨[],by simp,qS.one (.kg _ _ _ _ (fun h=>by cases h))⟩
 have each:∀ i,i<len-> ∃ q : α,G q/\ ∃ cs',w.cells? 0 (a.add (i*P.cellsOf e)) (P.cellsOf e)=some cs'/\qS (aM.all w) w (E q) cs':=fun i hi=>by
  have h1:=hel i hi;rw[aK (by omega)]at h1;obtain⟨cs',h2,h3⟩:=Option.bind_eq_some_iff.1 h1;obtain⟨q,h4,h5⟩:=h.2.2 k cs' _ (by omega) h3;exact⟨q,h4,cs',h2,h5⟩
 obtain⟨q,hq⟩:=Deep.choose_lt each;refine⟨(List.range len).map q,fun x hx=>by obtain⟨i,hi,rfl⟩:=cW.1 hx;exact(hq i (dI.1 hi)).1,qS.one ?_⟩;have hn:=h.1;by_cases h0:len=0
 ·subst h0;exact .kg _ _ _ _ (fun h=>by cases h)
 have hcells:∀ i c,i<len->c<n-> ∃ v,w.cell? (a.add (i*n+c))=some v/\VR (aM.all w) w ((E (q i)).getD c .undef) v:=fun i c hi fN=>by
  obtain⟨_,cs',h2,h3⟩:=hq i hi;rw[hn]at h2;obtain⟨_,h4,h5⟩:=World.cells?_some h2;have h6:=h5 c fN;rw[Deep.add_add,aK (by omega)]at h6;have h7:=h3.2 c (by rw[h.2.1];exact fN);rw[aj (l:=cs'),aK (by omega)]at h7;exact⟨_,h6,h7⟩
 obtain⟨v0,mD,_⟩:=hcells 0 0 (by omega) (by omega)
 have Xj:a.spot=none:=by
  have:=World.cell?_spot mD;simpa[Addr.add]using this
 obtain⟨b,off,sp⟩:=a;simp only at Xj;subst Xj
 have hlt:b<w.heap.size:=by
  rw[add_plain]at mD;simp only[World.cell?]at mD;split at mD
  ·rename_i x hx;exact(dG.1 hx).1
  ·cases mD
 have qu:∀ i,i<len->(((List.range len).map q).map mk).getD i .undef=mk (q i):=fun i hi=>by
  simp[aj,hi]
 have:=VR.aF (g:=aM.all w) (w:=w) false el (((List.range len).map q).map mk) b off cap hlt (fun h=>by cases h) (by simpa using hl)
  (fun i hi=>by rw[qu i (by simpa using hi)];exact hfit _)
  (fun i c hi fN => by
    obtain⟨v,hv,_⟩:=hcells i c (by simpa using hi) (by omega);rw[add_plain]at hv;rw[hsz,hv];rfl)
  (fun i c hi fN => by
    obtain⟨v,hv,hr⟩:=hcells i c (by simpa using hi) (by omega);rw[add_plain]at hv;rw[qu i (by simpa using hi),dP,hsz,hv,hcell _ _ (by omega)];exact hr)
 simpa using this
def ve(enc:TypeId × Value->H)(P:Program)(w:World)(N:Nat)(fs:List Field)(o:Nat){α : Type}(E : α->List AV)(G : α->Prop): Prop :=
 ∀ (cs : List Value) (fuel : Nat) (ys : List (DataW H × List MemPlace)), fuel <= N -> (∀ (i : Nat) (f : Field), fs[i]? = some f -> DataW.trod enc P w 0 (fun _ => true) true fuel f.type ((cs.drop f.offset).take (P.cellsOf f.type)) = ys[i]?) -> ys.length = fs.length ->
   ∃ a,G a/\qS (aM.all w) w (E a) ((cs.drop o).take (E a).length)
def ve.nil{N o:Nat}: ve enc P w N [] o (fun _:Unit=>[]) (fun _=>True):=fun cs fuel ys _ _ _=>⟨(),trivial,by simpa using qS.nil _ _⟩
def ve.cons {N o n : Nat} {f : Field} {fs : List Field} {α β : Type} {E : α -> List AV} {G : α -> Prop} {E' : β -> List AV} {G' : β -> Prop} (h : Reads enc P w N f.type n E G) (ho : f.offset = o) (hk : ve enc P w N fs (o + n) E' G') :
    ve enc P w N (f::fs) o (fun p : α × β=>E p.1++E' p.2) (fun p=>G p.1/\G' p.2):=by
 intro cs fuel ys hf hx hl;cases ys with
 | nil=>simp at hl
 | cons y ys =>
   have h0:=hx 0 f rfl;rw[ho,h.1]at h0;obtain⟨a,g1,v1⟩:=h.2.2 fuel _ _ hf (by simpa using h0);obtain⟨b,g2,v2⟩:=hk cs fuel ys hf (fun i f' hf'=>by have:=hx (i+1) f' (by simpa using hf');simpa using this) (by simpa using hl);refine⟨(a,b),⟨g1,g2⟩,?_⟩;have:=v1.app v2;have hlen:=h.2.1 a
   have e:(cs.drop o).take n++(cs.drop (o+n)).take (E' b).length=(cs.drop o).take (E a++E' b).length:=by
    rw[aC,hlen,List.take_add,List.drop_drop]
   rwa[e]at this
def Reads.struct{N t n:Nat}{fs:Array Field}{α : Type}{E : α->List AV}{G : α->Prop}(ht:P.underlying t=some (.struct fs))(hc:P.cellsOf t=n)(hE:∀ a,(E a).length=n)(h:ve enc P w N fs.toList 0 E G): Reads enc P w (N+1) t n E G:=by
 refine⟨hc,hE,fun fuel cs x hf hx=>?_⟩;obtain⟨xs,k,hk,_,hlen,hxl,xO⟩:=DataW.trod_struct ht hx;obtain⟨a,g,v⟩:=h cs k xs (by omega) (fun i f hf=>xO i f (by simpa using hf)) (by simpa using hxl);refine⟨a,g,?_⟩;rw[hE,List.drop_zero,aT (by omega)]at v;exact v
def Reads.deep{t n:Nat}{α : Type}{E : α->List AV}{G : α->Prop}(h:∀ N,Reads enc P w N t n E G){v:Value}{d:DataW H}{ps:List MemPlace}(hd:DataW.Trod enc P w 0 (fun _=>true) true t v d ps): ∃ a,G a/\qS (aM.all w) w (E a) v.cells.toList:=by
 obtain⟨f,hf⟩:=hd;exact(h f).2.2 f _ _ (Nat.le_refl _) hf
end
end Go.AM
namespace Go.Proofs.YtcjcnfcedihckaaGreatDoor
open Go.AM
set_option maxRecDepth 8000
section
variable {H:Type} {enc:TypeId × Value->H} {w:World}
abbrev Wv(n:Int): Prop:= -9223372036854775808<=n/\n<=9223372036854775807
abbrev RD(enc:TypeId × Value->H)(w:World)(N:Nat)(t:TypeId)(n:Nat){α : Type}(E : α->List AV)(G : α->Prop): Prop:=Reads enc Tryz.prog w N t n E G
def HL(N:Nat){t:TypeId}(ht:Tryz.prog.underlying t=some (.int .i64))(hc:Tryz.prog.cellsOf t=1): RD enc w N t 1 (fun n:Int=>[I n]) Wv:=Reads.int ht hc
def CD(N:Nat): RD enc w N 9 1 (fun s:aG=>[.str s]) (fun _=>True):=Reads.str Tryz.underlying9 (by kernel_rfl)
def Qw(N:Nat): RD enc w N 81 1 (fun n:Int=>[I n]) Wv:=HL N Tryz.underlying81 (by kernel_rfl)
def CH(N:Nat): RD enc w N 3 1 (fun n:Int=>[I n]) Wv:=HL N Tryz.underlying3 (by kernel_rfl)
def adW(v:eu): List AV:=[I v.kind,I v.n,.str v.s]
def rd_val(N:Nat): RD enc w (N+1) 83 3 adW Nw:=by
 have h:=Reads.struct (enc:=enc) (w:=w) (N:=N) (n:=3) Tryz.underlying83 (by kernel_rfl) (fun _=>rfl) (.cons (Qw N) rfl (.cons (CH N) rfl (.cons (CD N) rfl .nil)));exact h.map (fun p=>⟨p.1,p.2.1,p.2.2.1⟩) (fun _=>rfl) (fun _=>rfl) (fun p h=>h.2.1)
def Qx(N:Nat): RD enc w (N+2) 47 1 (fun l:List eu=>[cU l]) (fun l=> ∀ v ∈ l,Nw v) :=
 Reads.slice EV eR Tryz.underlying47 (by kernel_rfl) (rd_val N) (by decide) rfl (fun _=>rfl) (fun _ _ _=>rfl)
def adX(c:cL): List AV:=[.str c.name,I c.kind,cU c.order]
def aaz(N:Nat): RD enc w (N+3) 110 3 adX (fun c=> ∀ v ∈ c.order,Nw v):=by
 have h:=Reads.struct (enc:=enc) (w:=w) (N:=N+2) (n:=3) Tryz.underlying110 (by kernel_rfl) (fun _=>rfl) (.cons (CD _) rfl (.cons (Qw _) rfl (.cons (Qx N) rfl .nil)));exact h.map (fun p=>⟨p.1,p.2.1,p.2.2.1⟩) (fun _=>rfl) (fun _=>rfl) (fun p h=>h.2.2.1)
def Qy(N:Nat): RD enc w (N+4) 41 1 (fun l:List cL=>[bP l]) R3 :=
 Reads.slice EC bF Tryz.underlying41 (by kernel_rfl) (aaz N) (by decide) rfl (fun _=>rfl) (fun _ _ _=>rfl)
def Qz(N:Nat): RD enc w (N+1) 31 1 (fun l:List aG=>[bI l]) (fun _=>True):=by
 refine(Reads.slice E1 bj Tryz.underlying31 (by kernel_rfl) (CD N) (by decide) rfl (fun _=>rfl) ?_).weak (fun _ _=>trivial);intro s c hc;have h0:c=0:=by omega
 subst h0;rfl
def abP(r:eO): List AV:=[bI r.cells,bI r.outs]
def Ys(N:Nat): RD enc w (N+2) 80 2 abP (fun _=>True):=by
 have h:=Reads.struct (enc:=enc) (w:=w) (N:=N+1) (n:=2) Tryz.underlying80 (by kernel_rfl) (fun _=>rfl) (.cons (Qz N) rfl (.cons (Qz N) rfl .nil));exact h.map (fun p=>⟨p.1,p.2.1⟩) (fun _=>rfl) (fun _=>rfl) (fun p h=>trivial)
def Ww(N:Nat): RD enc w (N+3) 44 1 (fun l:List eO=>[dV l]) (fun _=>True) :=
 (Reads.slice ER cn Tryz.underlying44 (by kernel_rfl) (Ys N) (by decide) rfl (fun _=>rfl) (fun _ _ _=>rfl)).weak (fun _ _=>trivial)
def Wx(N:Nat): RD enc w (N+5) 46 6 fg En:=by
 have h:=Reads.struct (enc:=enc) (w:=w) (N:=N+4) (n:=6) Tryz.underlying46 (by kernel_rfl) (fun _=>rfl) (.cons (CD _) rfl (.cons (Qy N) rfl (.cons (Qy N) rfl (.cons (HL _ Tryz.underlying42 (by kernel_rfl)) rfl (.cons (HL _ Tryz.underlying43 (by kernel_rfl)) rfl (.cons (Ww (N+1)) rfl .nil))))));exact h.map (fun p=>⟨p.1,p.2.1,p.2.2.1,p.2.2.2.1,p.2.2.2.2.1,p.2.2.2.2.2.1⟩) (fun _=>rfl) (fun _=>rfl) (fun p h=>⟨h.2.1,h.2.2.1⟩)
end
end Go.Proofs.YtcjcnfcedihckaaGreatDoor
namespace Go.Proofs.YtcjcnfcedihckaaGreatDoor
open Go.AM
set_option maxRecDepth 8000
section
variable {H:Type} {enc:TypeId × Value->H} {w:World}
def aaA(N:Nat): RD enc w (N+6) 49 12 fE yD:=by
 have h:=Reads.struct (enc:=enc) (w:=w) (N:=N+5) (n:=12) Tryz.underlying49 (by kernel_rfl) (fun _=>rfl) (.cons (CH _) rfl (.cons (Wx N) rfl (.cons (CD _) rfl (.cons (CH _) rfl (.cons (Qx (N+3)) rfl (.cons (CH _) rfl (.cons (CH _) rfl .nil)))))));exact h.map (fun p=>(⟨p.1,p.2.1,p.2.2.1,p.2.2.2.1,p.2.2.2.2.1,p.2.2.2.2.2.1,p.2.2.2.2.2.2.1⟩:fy)) (fun _=>rfl) (fun _=>rfl) (fun p h=>⟨h.1,h.2.1,h.2.2.2.1,h.2.2.2.2.1,h.2.2.2.2.2.1,h.2.2.2.2.2.2.1⟩)
def Yt(N:Nat): RD enc w (N+7) 22 1 (fun l:List fy=>[lH l]) (fun l=> ∀ c ∈ l,yD c) :=
 Reads.slice EM dF Tryz.underlying22 (by kernel_rfl) (aaA N) (by decide) rfl (fun _=>rfl) (fun _ _ _=>rfl)
def Xk{v:Value}{d:DataW H}{ps:List MemPlace}{base:Nat}(hval:Value.okWide Tryz.prog w .any base 22 v)(hd:DataW.Trod enc Tryz.prog w 0 (fun _=>true) true 22 v d ps): ∃ l:List fy,(∀ c ∈ l,yD c)/\VR (aM.all w) w (lH l) v:=by
 obtain⟨a,len,cap,rfl⟩:=Go.WideShapes.okWide_slice Tryz.underlying22 hval
 obtain⟨t,h1,h2⟩:=Reads.deep (fun N=>by
  have:=Yt (enc:=enc) (w:=w) N;exact⟨this.1,this.2.1,fun f cs x hf hx=>this.2.2 f cs x (by omega) hx⟩) hd
 exact⟨t,h1,h2.2 0 (by simp)⟩
end
end Go.Proofs.YtcjcnfcedihckaaGreatDoor
namespace Go.Proofs.YtcjcnfcedihckaaGreatDoor
open Go.AM Go.ChangeShapes Go.WideShapes Go.ChangeAt Go.RowKit
set_option maxRecDepth 8000
def own: ownKnob Tryz.prog.godebug=none:=by kernel_rfl
def kids: Kids Tryz.prog (· < Tryz.prog.types.size):=kids_rows (by kernel_rfl) (by kernel_rfl)
def full: ∀ t e,t<Tryz.prog.types.size->Tryz.prog.underlying t=some (.slice e)->0<Tryz.prog.cellsOf e:=slices_full_of Tryz.prog (by kernel_rfl)
def wv: List (String × DataW Unit):=Rows.scriptOnlyRow.laid
def Yu {W : World} {g : Nat} {t : TypeId} {cs : Array Value} {fuel : Nat} {p : List MemPlace} (hg : Tryz.prog.globalNamed "internal/strconv.uint64pow10" = some g) (ht : (Tryz.prog.globals[g]?).map (·.type) = some t) (hv : W.var? Tryz.prog "internal/strconv.uint64pow10" = some cs)
    (hd:DataW.trod (fun _=>()) Tryz.prog W 0 (fun _=>true) false fuel t cs.toList=some (Rows.laid_internal_strconv_uint64pow10,p)):Lu W/\3<W.heap.size:=by
 have e:Rows.laid_internal_strconv_uint64pow10=Lib.tabData (H:=Unit) .u64 Lib.pow10Tab:=by kernel_rfl
 rw[e]at hd;have W_:g=3:=Option.some.inj (hg.symm.trans Jm);subst W_;have hgt:(Tryz.prog.globals[3]?).map (·.type)=some t:=ht;have ht2:(Tryz.prog.globals[3]?).map (·.type)=some 243:=by kernel_rfl
 have e3:t=243:=Option.some.inj (hgt.symm.trans ht2);subst e3;have hcs:=Lib.cells_of_tab Tryz.underlying243 Tryz.underlying166 (by kernel_rfl) (by kernel_rfl) hd
 have hok:Lu W:=by
  show W.var? Tryz.prog "internal/strconv.uint64pow10" = some (Lib.pow10Tab.map fun z => Value.int .u64 z).toArray
  rw[hv,<-hcs]
 refine⟨hok,?_⟩;have hc:=Lib.TabIs.cell hok hg 0 (by decide);simp only[World.cell?]at hc;split at hc
 ·rename_i x hx;exact(dG.1 hx).1
 ·cases hc
def aaB{W:World}{s:String}{g:Nat}{cs:Array Value}(hg:Tryz.prog.globalNamed s=some g)(hv:W.var? Tryz.prog s=some cs): g<W.heap.size:=by
 unfold World.var? at hv;simp only[hg,gk]at hv;cases hx:W.heap[g]? with
 | none=>rw[hx]at hv;simp at hv
 | some o=>exact(dG.1 hx).1
def QA {W : World} {s nm : String} {k g : Nat} {t : TypeId} {cs : Array Value} {fuel : Nat} {p : List MemPlace} {d : DataW Unit} (hk : Tryz.prog.globalNamed s = some k) (hkt : (Tryz.prog.globals[k]?).map (·.type) = some 59) (hg : Tryz.prog.globalNamed s = some g) (ht : (Tryz.prog.globals[g]?).map (·.type) = some t) (hv : W.var? Tryz.prog s = some cs)
    (hd:DataW.trod (fun _=>()) Tryz.prog W 0 (fun _=>true) false fuel t cs.toList=some (.iface nm d,p)):vf W s/\k<W.heap.size:=by
 obtain rfl:g=k:=Option.some.inj (hg.symm.trans hk);obtain rfl:t=59:=Option.some.inj (ht.symm.trans hkt);obtain⟨f,u,v,hc,_,_⟩:=iface_of_trod Tryz.underlying59 hd;have e:cs = #[.iface u v]:=by rw[<-Array.toList_inj,hc]
 exact⟨⟨u,v,by rw[hv,e]⟩,aaB hk hv⟩
def Pr{W:World}(h:laidMetH Tryz.prog wv W): wz (aM.all W) W:=by
 have h:laidMet Tryz.prog wv W:=h;obtain⟨ps,hl,_⟩:=h;obtain⟨_,_,_,_,_,_,_,_,_,_,hl,_⟩:=hl;obtain⟨_,_,_,_,_,_,_,_,_,_,hl,_⟩:=hl;obtain⟨g,t,cs,fuel,p,q,hg,ht,hv,hd,hl,_⟩:=hl;obtain⟨h1,l1⟩:=Yu hg ht hv hd;obtain⟨_,_,_,_,_,_,_,_,_,_,hl,_⟩:=hl;obtain⟨g,t,cs,fuel,p,q,hg,ht,hv,hd,hl,_⟩:=hl;obtain⟨h2,l2⟩:=QA Jo (by kernel_rfl) hg ht hv hd;obtain⟨g,t,cs,fuel,p,q,hg,ht,hv,hd,hl,_⟩:=hl;obtain⟨h3,l3⟩:=QA Jn (by kernel_rfl) hg ht hv hd;refine⟨fun b hb=>?_,h1,h3,h2⟩;simp only[CJ,List.mem_cons,List.not_mem_nil,or_false]at hb;show b<W.heap.size;rcases hb with rfl|rfl|rfl<;>assumption
def abQ: DataW Unit->List Value
 | .lit (.int k n)=>[.int k n]
 | .agg l => l.map fun d => match d with
   | .lit (.int k n)=> .int k n
   | _=>Go.undef
 | _=>[Go.undef]
def aaC: DataW Unit->Array Value
 | .agg l=>(l.flatMap abQ).toArray
 | _=> #[]
def yI(d:DataW Unit): Obj->Obj
 | .cells _ t fz=> .cells (aaC d) t fz
 | o=>o
noncomputable def low:Nat:=(World.holding Tryz.prog default ⟨#[],#[],[]⟩).heap.size
noncomputable def UX (n:Nat):Obj->Obj
 | .cells _ t fz=> .cells #[.iface 351 (.pointer (some ⟨n,0,none⟩))] t fz
 | o=>o
abbrev aaD: ByteArray:= { data:= #[118,97,108,117,101,32,111,117,116,32,111,102,32,114,97,110,103,101] }
abbrev Yv: ByteArray:= { data:= #[105,110,118,97,108,105,100,32,115,121,110,116,97,120] }
noncomputable def m_ (os:Os):World :=
 let w0:=World.holding Tryz.prog os ⟨#[.cells #[.string aaD] 353,.cells #[.string Yv] 353],#[],[]⟩
 { w0 with heap:=((((((w0.heap.modify 4 (yI Rows.laid_math_bits_deBruijn32tab)).modify 5 (yI Rows.laid_math_bits_deBruijn64tab)).modify 3 (yI Rows.laid_internal_strconv_uint64pow10)).modify 2 (yI Rows.laid_unicode_utf8_acceptRanges)).modify 1 (yI Rows.laid_unicode_utf8_first)).modify 7 (UX low)).modify 6 (UX (low+1)) }
def Wy(os:Os)(args:Array Value): laidMetH Tryz.prog wv ((m_ os).forCall (fun _ _=>0) ⟨#[],args,[]⟩).memory :=
 (laidMet_of_run' 8 (by kernel_rfl) (by kernel_rfl):laidMet Tryz.prog wv ((m_ os).forCall (fun _ _=>0) ⟨#[],args,[]⟩).memory)
set_option maxRecDepth 100000 in
def aaQ {H : Type} {enc : TypeId × Value -> H} {os : Os} {f : FuncId} {fn : Func} {s : ChangeSpec} (uW : Array Value)
    (started:os.Started) (noInit:Tryz.checked.prog.inits.idxOf? f=none) (hfn:Tryz.checked.prog.funcs[f]? = some fn)
    (hv:((m_ os).forCall (fun _ _=>0) ⟨#[],uW,[]⟩).variablesB Tryz.checked.prog=true)
    (hr : (((m_ os).forCall (fun _ _ => 0) ⟨#[], uW, []⟩).heap.toList.drop Tryz.checked.prog.globals.size).take ((begin Tryz.checked.prog (fun _ _ => 0) default).world.heap.size - Tryz.checked.prog.globals.size) =
      (begin Tryz.checked.prog (fun _ _=>0) default).world.heap.toList.drop Tryz.checked.prog.globals.size)
    (hok:Input.okWideB Tryz.checked.prog ((m_ os).forCall (fun _ _=>0) ⟨#[],uW,[]⟩) f ⟨#[],uW,[]⟩=true)
    (hpre:s.preB enc Tryz.checked.prog fn [] false ((m_ os).forCall (fun _ _=>0) ⟨#[],uW,[]⟩).memory uW 8=true)
    (hsz:s.sizedB enc Tryz.checked.prog fn false ((m_ os).forCall (fun _ _=>0) ⟨#[],uW,[]⟩).memory uW 8=true)
    (contract : ∀ (W : World) (base : Nat) (args : Array Value) (ds gs : List (DataW H)) (before : List MemPlace),
      (∀(j:Nat) t v,fn.params[j]? = some t->args[j]? = some v->Value.okWide Tryz.prog W .any base t v) ->
      DataW.Whole enc Tryz.prog fn.params.toList s.vars false W args.toList ds gs before->wz (aM.all W) W ->
      Calls Tryz.prog f args W fun e W'=> ∃ v,e = .returned v/\s.post enc Tryz.prog fn false true false false W args v W') :
    ReturnsInHanded {} Tryz.checked os f .any (fun w args=>(s.pre enc Tryz.checked.prog fn [] false w args/\laidMetH Tryz.prog wv w)/\sizedMet enc Tryz.checked.prog fn (OpenSpec.ofChange s) false w args) (s.post enc Tryz.checked.prog fn false true false false):=by
 refine returnsInHanded_of_change_and (C:=Tryz.checked) (X:=fun w _=>laidMetH Tryz.prog wv w) (fun _ _ _ hh h=>h.of_heap hh) own started noInit hfn
  (ChangeSpec.witness_at (enc:=enc) (C:=Tryz.checked) (os:=os) (X:=fun w _=>laidMetH Tryz.prog wv w) false (m_ os) uW 8 rfl hv hr hok hpre hsz (Wy os _)) ?_
 intro W base args ds gs before h1 h2 _ _ hL _;exact contract W base args ds gs before h1 h2 (Pr hL)
def aaR{a b c:AV}{x y z:Value}{g:aM}{w:World}(h1:VR g w a x)(h2:VR g w b y)(h3:VR g w c z): ∀ i,i<[a,b,c].length->VR g w ([a,b,c].getD i .undef) (#[x,y,z].getD i Go.undef):=by
 intro i hi
 match i,hi with
 | 0,_=>exact h1
 | 1,_=>exact h2
 | 2,_=>exact h3
def Wz(P:Program)(h:P.funcs.any Func.goes=false)(f:FuncId): P.goes f=false:=by
 unfold Program.goes;rw[h,dJ,Bool.or_false,fS];intro g _;cases hg:P.funcs[g]? with
 | none=>simp
 | some fn =>
   rw[Array.any_eq_false]at h;obtain⟨hl,rfl⟩:=dG.1 hg;simpa using h g hl
def QB(P:Program)(h:P.funcs.any Func.goes=false)(c:OpenClaim)(hs:c.start = .entering): false=c.goesBy P:=by
 unfold OpenClaim.goesBy Program.goesAt Program.goesFrom;rw[hs];cases P.funcNamed c.func with
 | none=>rfl
 | some f=>show false=(P.goes f || false);rw[Wz P h];rfl
def Sq: Tryz.pinned.checked.prog.funcs.any Func.goes=false:=by kernel_rfl
def Xl: laidOutB Tryz.checked.prog=true:=by kernel_rfl
def Xm: mapsRowed Tryz.checked.prog=true:=by kernel_rfl
def UY: Tryz.checked.prog.stopsHeard=true:=by kernel_rfl
def UZ: Tryz.checked.prog.mayEnter=true:=by kernel_rfl
