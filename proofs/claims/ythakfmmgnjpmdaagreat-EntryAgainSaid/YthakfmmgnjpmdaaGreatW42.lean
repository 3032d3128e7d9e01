/- Part. -/
import Derived.Test.YthakfmmgnjpmdaaGreatW41
import Derived.WalkKit
import Derived.ProofKit
import Derived.OpenShut
import Derived.ReadAgain
import Derived.Deep.SlicePairs
import Derived.Test.YthakfmmgnjpmdaaGreatRows
set_option linter.all false
set_option maxHeartbeats 1000000
namespace Go.Proofs.YthakfmmgnjpmdaaGreat
open Go.AM
set_option maxRecDepth 4000
def Gz: Table:=⟨[116],[⟨[97],1,[]⟩],[⟨[111],1,[]⟩],2,0,[⟨[[45]],[[97]]⟩]⟩
def v3: aH:=⟨1,3,[]⟩
def x3: jl:=⟨[116],2,[v3],0,[0],[[v3]]⟩
def VO: tV Gz 2 [v3]=(x3,0):=by kernel_rfl
def Ce: (jN x3).2=0:=by kernel_rfl
def Rb: qT Gz:=by
 refine⟨by decide,⟨by decide,fun c hc=>?_⟩,⟨by decide,fun c hc=>?_⟩,by decide,fun r hr=>?_⟩
 ·obtain rfl:=List.mem_singleton.1 hc;exact⟨by decide,by decide,fun v hv=>by cases hv⟩
 ·obtain rfl:=List.mem_singleton.1 hc;exact⟨by decide,by decide,fun v hv=>by cases hv⟩
 ·obtain rfl:=List.mem_singleton.1 hr;exact⟨⟨by decide,fun s hs=>by obtain rfl:=List.mem_singleton.1 hs;decide⟩,by decide,fun s hs=>by obtain rfl:=List.mem_singleton.1 hs;decide⟩
def aaI: nN [v3]:=⟨by decide,fun w hw=>by obtain rfl:=List.mem_singleton.1 hw;exact⟨by decide,by decide⟩⟩
def Kf: nO x3:=by have:=Ke Rb 2 aaI;rw[VO]at this;exact this
def aap: yc x3 Gz=true:=by
 have h:tV Gz x3.ver x3.input=(x3,0):=VO;unfold yc;rw[h];simp[wM]
def Od: aF aD 17 [] (cI Gz):=by
 obtain⟨E,hE⟩:∃ E,cI Gz=E:=⟨_,rfl⟩;rw[hE];refine aK G6 ?_;intro Q aq au aA;repeat' first|refine ak ?_|refine aj ?_ ?_<;>intro hw<;>try omega|fail
 rw[<-hE];refine uS ?_;have v1:∀ σ s (k:Int),View σ (.agg [.str s,I k,.ai]) (bW ⟨s,k,[]⟩):=fun σ s k=>View.n9 (.cons (.refl _ rfl) (.cons (.refl _ rfl) (.cons (.ai _) (.nil _))));have v2:∀ σ s,View σ (.aG true E1 [.str s]) (lJ [s]):=fun σ s=> .weak _ _ _ rfl;exact View.n9 (.cons (.refl _ rfl) (.cons (View.Ky (.cons (v1 _ _ _) (.nil _))) (.cons (View.Ky (.cons (v1 _ _ _) (.nil _))) (.cons (.refl _ rfl) (.cons (.refl _ rfl) (.cons (View.Ky (.cons (View.n9 (.cons (v2 _ _) (.cons (v2 _ _) (.nil _)))) (.nil _))) (.nil _)))))))
def Yo: aF aD 18 [I 3] (.agg [I 1,I 3,.str []]):=by
 refine aK Pe ?_;intro Q aq au aA;repeat' first|refine ak ?_|refine aj ?_ ?_<;>intro hw<;>try omega|fail
 all_goals exact aN rfl rfl
def GA: aF aD 7 [] (.bool true):=by
 have c1:=Od;have c2:=Yo;have c3:=HZ Gz Rb 2 [v3] aaI;have c4:=Gs x3 Kf
 have c5:=SE (jN x3).1 (by
  have:=(zF Ce).1;have:=(zE this).2;rw[(zF Ce).2];dsimp only;omega)
 rw[X7 Kf Ce]at c5;have hb:jN x3=((jN x3).1,0):=Prod.ext rfl Ce;rw[hb]at c4;have c6:=wP x3 x3 Kf.sm Kf.sm;rw[wM]at c6;have c7:=Gy x3 Kf Gz Rb;rw[aap]at c7;rw[VO]at c3;generalize (jN x3).1=s at *;clear hb;have hT:=I9 Gz;generalize cI Gz=T at *;have eX:iC x3 = .agg [.str [116],I 2,.aG false EV [.agg [I 1,I 3,.str []]],I 0,.aG false E1 [I 0],.aG false E1 [.aG false EV [.agg [I 1,I 3,.str []]]]]:=rfl;have eO:uj (x3,0) = .bJ [.agg [.str [116],I 2,.aG false EV [.agg [I 1,I 3,.str []]],I 0,.aG false E1 [I 0],.aG false E1 [.aG false EV [.agg [I 1,I 3,.str []]]]],I 0]:=rfl;have eP:eEP (x3,0) = .bJ [.agg [.str [116],I 2,.aG false EV [.agg [I 1,I 3,.str []]],I 0,.aG false E1 [I 0],.aG false E1 [.aG false EV [.agg [I 1,I 3,.str []]]]],I 0]:=rfl;have eB:Yd (s,0) = .bJ [.str s,I 0]:=rfl;have eV:aL [v3] = .aG false EV [.agg [I 1,I 3,.str []]]:=rfl;rw[eO,eV]at c3;rw[eX,eB]at c4;rw[eP]at c5;rw[eX]at c6 c7;clear eX eO eP eB eV;have c3:=aF.weak (args:=[T,I 2,.aG true EV [.agg [I 1,I 3,.str []]]]) c3 (.cons (.refl _ hT) (.cons (.refl _ rfl) (.cons (.weak _ _ _ rfl) (.nil _))));refine aK KG ?_;intro Q aq au aA;dsimp (config:= { zeta:=true }) only;repeat' first|refine ak ?_|refine yG c6 ?_|refine aj ?_ ?_<;>intro hw<;>try omega|fail
 all_goals first|exact aN rfl rfl|exact aP|skip
end Go.Proofs.YthakfmmgnjpmdaaGreat
namespace Go.Proofs.YthakfmmgnjpmdaaGreat
open Go.AM
set_option maxRecDepth 4000
def vV(v:aH): Prop:=mz v.n
def sF(l:List aH): Bool:=decide (l.length<=12) && l.all qE
def tW(e:jl): Bool:=decide (e.table.length<=300) && sF e.input && decide (e.rules.length<=30) && decide (e.rows.length<=30) && e.rows.all sF
def E6(e:jl): Prop:=mz e.ver/\(∀ v ∈ e.input,vV v)/\mz e.err/\(∀ n ∈ e.rules,mz n)/\ ∀ l ∈ e.rows,∀ v ∈ l,vV v
def Cf{l:List aH}(h:sF l=true)(hr:∀ v ∈ l,vV v): mQ l:=by
 simp only[sF,aC,decide_eq_true_eq,bg]at h;refine⟨by omega,fun v hv=>?_⟩;have h2:=h.2 v hv;have hS:qE v=decide (v.s.length<=300):=rfl;rw[hS,decide_eq_true_eq]at h2;have h3:=hr v hv;exact⟨h3,by omega⟩
def GB{e:jl}(h:tW e=true)(hr:E6 e): nO e:=by
 simp only[tW,aC,decide_eq_true_eq,bg]at h;obtain⟨⟨⟨⟨h1,h2⟩,h3⟩,h4⟩,h5⟩:=h;obtain⟨r1,r2,r3,r4,r5⟩:=hr;exact⟨by omega,r1,Cf h2 r2,r3,⟨by omega,r4⟩,by omega,fun l hl=>Cf (h5 l hl) (r5 l hl)⟩
def GC(e:jl): aF aD 11 [iC e] (.bool (tW e)):=by
 have c1:=EP e.input;have cR:=fun k=>EP (e.rows.getD k default);obtain⟨E,hE⟩:∃ E,tW e=E:=⟨_,rfl⟩;rw[hE];unfold tW at hE;have e1:(decide (e.input.length<=12) && e.input.all qE)=sF e.input:=rfl;rw[e1]at c1;obtain⟨A,B,C,D,F,G⟩:=e;dsimp only at c1 cR hE;generalize sF C=f at *;simp only[iC,nj,cJ,aL,cu]at c1 ⊢;refine aK G5 ?_;intro Q aq au aA;by_cases h0:A.length<=300/\f=true/\F.length<=30/\G.length<=30
 ·obtain⟨h1,rfl,h3,h4⟩:=h0;rw[decide_eq_true h1,decide_eq_true h3,decide_eq_true h4,dG,dG,dG,dG]at hE;repeat' first|refine ak ?_|refine cW c1 ?_|refine aj ?_ ?_<;>intro hw<;>try omega|fail
  all_goals first|exact aP|skip
  with_reducible refine aX [2,3,28,29,30,31,32,33,34,35,36,37,38,39,40,41,42,43] (fun q:Nat=>[(3,I q)]) (fun _=>[.cells [.str A,I B,.aG false EV (C.map bD),I D,.aG false E1 (F.map lG),.aG false E1 (G.map aL)]]) (fun q=>q<=G.length/\ ∀ k,k<q->sF (G.getD k default)=true) (fun q=>G.length-q) (0) ?_ ?_ ?_ ?_
  ·simp
  ·rfl
  ·exact at_
  rintro i r ⟨g1,g2⟩;by_cases hi:i<G.length
  ·have c:=cR i;have e1:(decide ((G.getD i default).length<=12) && (G.getD i default).all qE)=sF (G.getD i default):=rfl;rw[e1]at c;have hne:=fun h=>zw (p:=sF) hi h;have dD:=fun he=>bx (q:=fun k=>sF (G.getD k default)=true) g2 (i:=i) he;generalize sF (G.getD i default)=v at c hne dD;simp only[aL]at c;repeat' first|refine ak ?_|refine cW c ?_|refine aj ?_ ?_<;>intro hw<;>try omega|fail
   all_goals first
    | exact aP
    |(exact aN (by rw[<-hE,hne (by simp_all)]) rfl)
    | (refine ⟨i + 1, ?_, ?_, ?_, bK, at_⟩ <;> (try dsimp only)
       ·exact⟨by omega,dD (by simp_all)⟩
       ·omega
       all_goals (first|rfl|(simp[go_sem];done)))
  ·repeat' first|refine ak ?_|refine aj ?_ ?_<;>intro hw<;>try omega|fail
   exact aN (by rw[<-hE,zx (fun k hk=>g2 k (by omega))]) rfl
 ·have Qz : E = false := by
   rw[<-hE];cases hx:(decide (A.length<=300) && f && decide (F.length<=30) && decide (G.length<=30) && G.all sF)with
   | false=>rfl
   | true =>
     simp only[aC,decide_eq_true_eq]at hx;exact absurd ⟨hx.1.1.1.1,hx.1.1.1.2,hx.1.1.2,hx.1.2⟩ h0
  subst Qz;repeat' first|refine ak ?_|refine cW c1 ?_|refine aj ?_ ?_<;>intro hw<;>try omega|fail
  all_goals first
   | exact aP
   | exact aN rfl rfl
   |(exfalso;apply h0;simp_all;done)
   |(exfalso;apply h0;refine⟨by omega,by simp_all,by omega,by omega⟩)
end Go.Proofs.YthakfmmgnjpmdaaGreat
namespace Go.Proofs.YthakfmmgnjpmdaaGreat
open Go.AM
set_option maxRecDepth 4000
def VP(l:List bQ): Prop:= ∀ c ∈ l,∀ v ∈ c.order,vV v
def Bh(t:Table): Prop:=VP t.ins/\VP t.outs
def T2{l:List bQ}(h:Cc l=true)(hr:VP l): l.length<=12/\ ∀ c ∈ l,yP c:=by
 simp only[Cc,EZ,aC,decide_eq_true_eq,bg]at h;obtain⟨⟨h1,h2⟩,h3⟩:=h;refine⟨h1,fun c hc=>?_⟩;have a:=h2 c hc;have b:=h3 c hc;simp only[Fz,LJ,aC,decide_eq_true_eq,bg]at a b;refine⟨by omega,by omega,fun v hv=>⟨hr c hc v hv,?_⟩⟩;have:=b.2 v hv;simp only[qE,decide_eq_true_eq]at this;omega
def Rc{l:List aS}(h:EY l=true): l.length<=10/\ ∀ s ∈ l,s.length<=300:=by
 simp only[EY,aC,decide_eq_true_eq,bg]at h;exact⟨h.1,fun s hs=>by have:=h.2 s hs;simpa[LI]using this⟩
def Re{t:Table}(h:vG t=true)(hr:Bh t): qT t:=by
 simp only[vG,aC,decide_eq_true_eq,bg]at h;obtain⟨⟨⟨⟨h1,h2⟩,h3⟩,h4⟩,h5⟩:=h;have ci:=T2 h3 hr.1;have co:=T2 h4 hr.2;refine⟨by omega,⟨by omega,ci.2⟩,⟨by omega,co.2⟩,by omega,fun r rD=>?_⟩;have:=h5 r rD;simp only[LK,aC]at this;have a:=Rc this.1;have b:=Rc this.2;exact⟨⟨by omega,fun s hs=>by have:=a.2 s hs;omega⟩,by omega,fun s hs=>by have:=b.2 s hs;omega⟩
def Yp{l:List aH}(h:sF l=true)(hr:∀ v ∈ l,vV v): nN l:=yb (Cf h hr)
def Na(t:Table)(ver:Int)(row:List aH)(ht:Bh t)(hr:∀ v ∈ row,vV v): aF aD 3 [cI t,I ver,aL row] (.bool true):=by
 have c0:=GA;have c1:=Gv t;have c2:aF aD 6 [aL row] (.bool (sF row)):=EP row;cases h1:vG t with
 | false =>
   rw[h1]at c1;clear c2;simp only[cI,eJ,aY,dy,aL]at c1 ⊢;refine aK sr ?_;intro Q aq au aA;repeat' first|refine ak ?_|refine cW c0 ?_|refine aj ?_ ?_<;>intro hw<;>try omega|fail
   all_goals first|exact aN rfl rfl|exact aP|skip
 | true =>
   cases h2:sF row with
   | false =>
     rw[h1]at c1;rw[h2]at c2;simp only[cI,eJ,aY,dy,aL]at c1 c2 ⊢;refine aK sr ?_;intro Q aq au aA;repeat' first|refine ak ?_|refine cW c0 ?_|refine aj ?_ ?_<;>intro hw<;>try omega|fail
     all_goals first|exact aN rfl rfl|exact aP|skip
   | true =>
     rw[h1]at c1;rw[h2]at c2;have ok:=Re h1 ht;have okr:=Yp h2 hr;have c3:=HZ t ok ver row okr;have c4:=Q8 t ok ver row okr;have E7:=Ke ok ver okr;have c5:=wP (tV t ver row).1 (tV t ver row).1 E7.sm E7.sm;rw[wM]at c5;clear ok okr E7 ht hr h1 h2;generalize tV t ver row=P at *;obtain⟨x,e⟩:=P;dsimp only at c5;simp only[iC,nj,cI,eJ,aY,dy,aL,cJ,cu,uj]at c1 c2 c3 c4 c5 ⊢;refine aK sr ?_;intro Q aq au aA;repeat' first|refine ak ?_|refine cW c0 ?_|refine aj ?_ ?_<;>intro hw<;>try omega|fail
     all_goals first|exact aN rfl rfl|exact aP|skip
def GD(x y:jl)(t:Table)(hx:E6 x)(hy:E6 y)(ht:Bh t): aF aD 4 [iC x,iC y,cI t] (.bool true):=by
 have c0:=GA;have c1:=GC x;have c2:=GC y;have c3:=Gv t;by_cases h:tW x=true/\tW y=true/\vG t=true
 ·obtain⟨h1,h2,h3⟩:=h;have E7:=GB h1 hx;have oky:=GB h2 hy;have okt:=Re h3 ht;rw[h1]at c1;rw[h2]at c2;rw[h3]at c3;have c4:=Gy x E7 t okt;have c5:=SD x E7 t okt;have c6:=Cd x y E7.sm oky.sm;have c7:=wP x y E7.sm oky.sm;have c8:=Cd x x E7.sm E7.sm;rw[wM]at c8;clear E7 oky okt hx hy ht h1 h2 h3;generalize yc x t=B1 at *;generalize r_ x y=B2 at *;simp only[iC,nj,cI,eJ,aY,dy,aL,cJ,cu]at c1 c2 c3 c4 c5 c6 c7 c8 ⊢;refine aK ua ?_;intro Q aq au aA;repeat' first|refine ak ?_|refine cW c0 ?_|refine aj ?_ ?_<;>intro hw<;>try omega|fail
  all_goals first|exact aN rfl rfl|exact aP|skip
 ·clear hx hy ht;generalize tW x=B1 at *;generalize tW y=B2 at *;generalize vG t=B3 at *;simp only[iC,nj,cI,eJ,aY,dy,aL,cJ,cu]at c1 c2 c3 ⊢;refine aK ua ?_;intro Q aq au aA;cases B1<;>cases B2<;>cases B3<;>first|exact absurd ⟨rfl,rfl,rfl⟩ h|skip
  all_goals
   repeat' first|refine ak ?_|refine cW c0 ?_|refine aj ?_ ?_<;>intro hw<;>try omega|fail
   all_goals first|exact aN rfl rfl|exact aP|skip
end Go.Proofs.YthakfmmgnjpmdaaGreat
namespace Go.AM
open Go.ChangeShapes Go.WideShapes
section
variable {H:Type} {enc:TypeId × Value->H} {P:Program} {w w':World} {base:Nat} {spare:Nat->Bool} {held:Bool}
def um: ∀ {ts:List TypeId} {vs:List Value} {ds:List (DataW H)} {ps:List MemPlace},DataW.TrodAll enc P w base spare held ts vs ds ps->(∀ p ∈ ps,w.sameAt w' p)->DataW.TrodAll enc P w' base spare held ts vs ds ps
 | [],[],[],_,h,_=>h
 | _::_,_::_,_::_,_,⟨p,q,⟨n,hn⟩,h2,e⟩,hs=>⟨p,q,⟨n,DataW.trod_carry n _ _ _ hn (fun x hx=>hs x (by rw[e];exact dH _ hx))⟩,um h2 (fun x hx=>hs x (by rw[e];exact eA _ hx)),e⟩
def Kg{may:MemPlace->Prop}(h1:w'.os=w.os)(h2:w'.output=w.output)(h3:∀ b,b<w.heap.size->w'.heap[b]? = w.heap[b]?): w.keptBut w' may:=by
 refine⟨h1,h2,fun i hi=>?_⟩;rw[h3 i hi];split
 ·rename_i a b ha hb;rw[ha]at hb;cases Option.some.inj hb;exact⟨rfl,rfl,rfl,fun _ _=>rfl⟩
 ·rename_i a b ha hb;rw[ha]at hb;cases Option.some.inj hb;exact .inr ⟨rfl,rfl⟩
 ·rfl
def LM(h3:∀ b,b<w.heap.size->w'.heap[b]? = w.heap[b]?){p:MemPlace}(hp:p.block<w.heap.size): w.sameAt w' p:=by
 cases p with
 | cell b off=>exact nk (h3 b hp) off none
 | map b=>exact h3 b hp
def aM.all(w:World): aM:=aM.bare (· < w.heap.size)
def Cg {f : FuncId} {fn : Func} {s : ChangeSpec} {t : TypeId} {args' : List AV} {W : World} {args : Array Value} {ds gs : List (DataW H)} {before : List MemPlace}
    (h:aF P f args' (.bool true)) (hW:DataW.Whole enc P fn.params.toList s.vars false W args.toList ds gs before) (hG:AU (aM.all W) W)
    (K:Kids P (· < P.types.size)) (hz:∀ t e,t<P.types.size->P.underlying t=some (.slice e)->0<P.cellsOf e) (hps:∀ t ∈ fn.params.toList,t<P.types.size)
    (hvars:s.vars=[]) (hrt:fn.resultTypes = #[t]) (ht:P.underlying t=some .bool) (hfn:s.fn H (ds++gs) = { results:=[.lit (.bool true)],args:=ds,vars:=[] })
    (hl:args'.length=args.size) (hv:∀ i,i<args'.length->VR (aM.all W) W (args'.getD i .undef) (args.getD i Go.undef)) :
    Calls P f args W fun e W'=> ∃ v,e = .returned v/\s.post enc P fn false true false false W args v W':=by
 refine((h []).2 (aM.all W) W args (Rel.bare (fun _ h=>h) hG) hl hv).mono ?_;rintro e W' ⟨out,g',σ',hR,hE,hO,rfl,rfl⟩;have hfr:∀ b,b<W.heap.size->W'.heap[b]? = W.heap[b]?:=fun b hb=>hE.frame b hb iF;cases e with
 | panicked c=>exact hO.elim
 | outgrown=>exact hO.elim
 | returned v =>
   have hb:v = .bool true:=by cases hO;rfl
   subst hb;refine⟨_,rfl,ds,gs,before,[],before,[],hW,?_,?_,?_,Kg hE.os hE.output hfr,fun h=>by cases h⟩
   ·rw[hfn,hrt];exact trodAll_mk1 (RowKit.shut_bool ht true)
   ·rw[hfn];have hlt:=hW.lt;obtain⟨p,q,h1,h2,rfl,_,_⟩:=hW;rw[hvars]at h2;obtain⟨rfl,rfl⟩:=trodVars_none h2;rw[bH]at hlt ⊢;refine um (DataW.TrodAll.respare K hz hps h1 (fun x hx=>by simpa using hlt x hx)) (fun x hx=>LM hfr (hlt x hx))
   ·rw[hfn,hvars];rfl
def VR.string{g:aM}{w:World}(s:ByteArray): VR g w (.str s.data.toList) (.string s):=VR.str s.data.toList
end
end Go.AM
namespace Go.AM
open Go.ChangeShapes Go.WideShapes
def q9(g:aM)(w:World)(az:List AV)(vs:List Value): Prop:=az.length=vs.length/\ ∀ i,i<az.length->VR g w (az.getD i .undef) (vs.getD i Go.undef)
def q9.nil(g:aM)(w:World): q9 g w [] []:=⟨rfl,fun i hi=>by cases hi⟩
def q9.app{g:aM}{w:World}{a b:List AV}{x y:List Value}(h:q9 g w a x)(k:q9 g w b y): q9 g w (a++b) (x++y):=by
 have h1:=h.1;refine⟨by simp[h.1,k.1],fun i hi=>?_⟩;rw[List.length_append]at hi;by_cases hl:i<a.length
 ·have:=h.2 i hl;rw[aB,aB]at this ⊢;rw[aV hl,aV (by omega)];exact this
 ·have:=k.2 (i-a.length) (by omega);rw[aB,aB]at this ⊢;rw[bR (by omega),bR (by omega),<-h1];exact this
def q9.one{g:aM}{w:World}{a:AV}{x:Value}(h:VR g w a x): q9 g w [a] [x]:=⟨rfl,fun i hi=>by
 match i,hi with
 | 0,_=>exact h⟩
def q9.agg{g:aM}{w:World}{az:List AV}{vs:Array Value}(h:q9 g w az vs.toList)(hs:az.all AV.scalar=true): VR g w (.agg az) (.agg vs):=by
 refine .agg az vs (by simpa using h.1) hs (fun i hi=>?_);have:=h.2 i hi;simpa[aB,eD]using this
section
variable {H:Type} {enc:TypeId × Value->H} {P:Program} {w:World}
def Reads(enc:TypeId × Value->H)(P:Program)(w:World)(N:Nat)(t:TypeId)(n:Nat){α : Type}(E : α->List AV)(G : α->Prop): Prop :=
 P.cellsOf t=n/\(∀ a,(E a).length=n)/\ ∀ fuel cs x,fuel<=N->DataW.trod enc P w 0 (fun _=>true) true fuel t cs=some x-> ∃ a,G a/\q9 (aM.all w) w (E a) cs
def Reads.weak{N t n:Nat}{α : Type}{E : α->List AV}{G G' : α->Prop}(h:Reads enc P w N t n E G)(hg:∀ a,G a->G' a): Reads enc P w N t n E G' :=
 ⟨h.1,h.2.1,fun f cs x hf hx=>by obtain⟨a,h1,h2⟩:=h.2.2 f cs x hf hx;exact⟨a,hg a h1,h2⟩⟩
def Reads.map{N t n:Nat}{α β : Type}{E : α->List AV}{G : α->Prop}{E' : β->List AV}{G' : β->Prop}(h:Reads enc P w N t n E G)(f : α-> β)(hE:∀ a,E' (f a)=E a)(hl:∀ b,(E' b).length=n)(hg:∀ a,G a->G' (f a)): Reads enc P w N t n E' G' :=
 ⟨h.1,hl,fun fu cs x hf hx=>by obtain⟨a,h1,h2⟩:=h.2.2 fu cs x hf hx;exact⟨f a,hg a h1,by rw[hE];exact h2⟩⟩
def Reads.int{N t:Nat}(ht:P.underlying t=some (.int .i64))(hc:P.cellsOf t=1): Reads enc P w N t 1 (fun n:Int=>[.int .i64 n]) (fun n=> -9223372036854775808<=n/\n<=9223372036854775807) :=
 ⟨hc, fun _ => rfl, fun f cs x _ hx => by
   obtain⟨n,rfl,_,wf⟩:=DataW.trod_int ht hx;exact⟨n,by simpa[Lit.wf,IntKind.min,IntKind.max,IntKind.signed,IntKind.bits]using wf,q9.one (.int _ _)⟩⟩
def Reads.str{N t:Nat}(ht:P.underlying t=some .string)(hc:P.cellsOf t=1): Reads enc P w N t 1 (fun s:List UInt8=>[.str s]) (fun _=>True) :=
 ⟨hc, fun _ => rfl, fun f cs x _ hx => by
   obtain⟨s,rfl,_,_⟩:=DataW.trod_string ht hx;exact⟨s.data.toList,trivial,q9.one (VR.string s)⟩⟩
def Reads.bool{N t:Nat}(ht:P.underlying t=some .bool)(hc:P.cellsOf t=1): Reads enc P w N t 1 (fun b:Bool=>[.bool b]) (fun _=>True) :=
 ⟨hc, fun _ => rfl, fun f cs x _ hx => by
   obtain⟨b,rfl,_⟩:=DataW.trod_bool ht hx;exact⟨b,trivial,q9.one (.bool b)⟩⟩
def Reads.slice {N t e n : Nat} {α : Type} [Inhabited α] {E : α -> List AV} {G : α -> Prop} (el : El) (mk : α -> AV) (ht : P.underlying t = some (.slice e)) (hc : P.cellsOf t = 1) (h : Reads enc P w N e n E G) (SR : 0 < n) (hsz : el.sz = n)
    (hfit:∀ a,(mk a).fits el=true) (hcell:∀ a c,c<n->(mk a).cell c=(E a).getD c .undef):Reads enc P w (N+1) t 1 (fun l:List α=>[.aG false el (l.map mk)]) (fun l=> ∀ a ∈ l,G a):=by
 refine⟨hc,fun _=>rfl,fun fuel cs x hf hx=>?_⟩;rcases DataW.trod_slice ht hx with⟨rfl,rfl⟩|⟨a,len,cap,elems,rest,k,hk,rfl,_,_,hl,_,hlen,hel,_,_⟩
 ·exact⟨[],by simp,q9.one (.lO _ _ _ _ (fun h=>by cases h))⟩
 have each:∀ i,i<len-> ∃ q : α,G q/\ ∃ cs',w.cells? 0 (a.add (i*P.cellsOf e)) (P.cellsOf e)=some cs'/\q9 (aM.all w) w (E q) cs':=fun i hi=>by
  have h1:=hel i hi;rw[aE (by omega)]at h1;obtain⟨cs',h2,h3⟩:=Option.bind_eq_some_iff.1 h1;obtain⟨q,h4,h5⟩:=h.2.2 k cs' _ (by omega) h3;exact⟨q,h4,cs',h2,h5⟩
 obtain⟨q,hq⟩:=Deep.choose_lt each;refine⟨(List.range len).map q,fun x hx=>by obtain⟨i,hi,rfl⟩:=eZ.1 hx;exact(hq i (gj.1 hi)).1,q9.one ?_⟩;have hn:=h.1;by_cases h0:len=0
 ·subst h0;exact .lO _ _ _ _ (fun h=>by cases h)
 have hcells:∀ i c,i<len->c<n-> ∃ v,w.cell? (a.add (i*n+c))=some v/\VR (aM.all w) w ((E (q i)).getD c .undef) v:=fun i c hi iE=>by
  obtain⟨_,cs',h2,h3⟩:=hq i hi;rw[hn]at h2;obtain⟨_,h4,h5⟩:=World.cells?_some h2;have h6:=h5 c iE;rw[Deep.add_add,aE (by omega)]at h6;have h7:=h3.2 c (by rw[h.2.1];exact iE);rw[aB (l:=cs'),aE (by omega)]at h7;exact⟨_,h6,h7⟩
 obtain⟨v0,kp,_⟩:=hcells 0 0 (by omega) (by omega)
 have aaJ:a.spot=none:=by
  have:=World.cell?_spot kp;simpa[Addr.add]using this
 obtain⟨b,off,sp⟩:=a;simp only at aaJ;subst aaJ
 have hlt:b<w.heap.size:=by
  rw[add_plain]at kp;simp only[World.cell?]at kp;split at kp
  ·rename_i x hx;exact(gP.1 hx).1
  ·cases kp
 have sn:∀ i,i<len->(((List.range len).map q).map mk).getD i .undef=mk (q i):=fun i hi=>by
  simp[aB,hi]
 have:=VR.aG (g:=aM.all w) (w:=w) false el (((List.range len).map q).map mk) b off cap hlt (fun h=>by cases h) (by simpa using hl)
  (fun i hi=>by rw[sn i (by simpa using hi)];exact hfit _)
  (fun i c hi iE => by
    obtain⟨v,hv,_⟩:=hcells i c (by simpa using hi) (by omega);rw[add_plain]at hv;rw[hsz,hv];rfl)
  (fun i c hi iE => by
    obtain⟨v,hv,hr⟩:=hcells i c (by simpa using hi) (by omega);rw[add_plain]at hv;rw[sn i (by simpa using hi),eT,hsz,hv,hcell _ _ (by omega)];exact hr)
 simpa using this
def wX(enc:TypeId × Value->H)(P:Program)(w:World)(N:Nat)(fs:List Field)(o:Nat){α : Type}(E : α->List AV)(G : α->Prop): Prop :=
 ∀ (cs : List Value) (fuel : Nat) (ys : List (DataW H × List MemPlace)), fuel <= N -> (∀ (i : Nat) (f : Field), fs[i]? = some f -> DataW.trod enc P w 0 (fun _ => true) true fuel f.type ((cs.drop f.offset).take (P.cellsOf f.type)) = ys[i]?) -> ys.length = fs.length ->
   ∃ a,G a/\q9 (aM.all w) w (E a) ((cs.drop o).take (E a).length)
def wX.nil{N o:Nat}: wX enc P w N [] o (fun _:Unit=>[]) (fun _=>True):=fun cs fuel ys _ _ _=>⟨(),trivial,by simpa using q9.nil _ _⟩
def wX.cons {N o n : Nat} {f : Field} {fs : List Field} {α β : Type} {E : α -> List AV} {G : α -> Prop} {E' : β -> List AV} {G' : β -> Prop} (h : Reads enc P w N f.type n E G) (ho : f.offset = o) (hk : wX enc P w N fs (o + n) E' G') :
    wX enc P w N (f::fs) o (fun p : α × β=>E p.1++E' p.2) (fun p=>G p.1/\G' p.2):=by
 intro cs fuel ys hf hx hl;cases ys with
 | nil=>simp at hl
 | cons y ys =>
   have h0:=hx 0 f rfl;rw[ho,h.1]at h0;obtain⟨a,g1,v1⟩:=h.2.2 fuel _ _ hf (by simpa using h0);obtain⟨b,g2,v2⟩:=hk cs fuel ys hf (fun i f' hf'=>by have:=hx (i+1) f' (by simpa using hf');simpa using this) (by simpa using hl);refine⟨(a,b),⟨g1,g2⟩,?_⟩;have:=v1.app v2;have hlen:=h.2.1 a
   have e:(cs.drop o).take n++(cs.drop (o+n)).take (E' b).length=(cs.drop o).take (E a++E' b).length:=by
    rw[List.length_append,hlen,List.take_add,List.drop_drop]
   rwa[e]at this
def Reads.struct{N t n:Nat}{fs:Array Field}{α : Type}{E : α->List AV}{G : α->Prop}(ht:P.underlying t=some (.struct fs))(hc:P.cellsOf t=n)(hE:∀ a,(E a).length=n)(h:wX enc P w N fs.toList 0 E G): Reads enc P w (N+1) t n E G:=by
 refine⟨hc,hE,fun fuel cs x hf hx=>?_⟩;obtain⟨xs,k,hk,_,hlen,hxl,hfs⟩:=DataW.trod_struct ht hx;obtain⟨a,g,v⟩:=h cs k xs (by omega) (fun i f hf=>hfs i f (by simpa using hf)) (by simpa using hxl);refine⟨a,g,?_⟩;rw[hE,e8,bX (by omega)]at v;exact v
def Reads.deep{t n:Nat}{α : Type}{E : α->List AV}{G : α->Prop}(h:∀ N,Reads enc P w N t n E G){v:Value}{d:DataW H}{ps:List MemPlace}(hd:DataW.Trod enc P w 0 (fun _=>true) true t v d ps): ∃ a,G a/\q9 (aM.all w) w (E a) v.cells.toList:=by
 obtain⟨f,hf⟩:=hd;exact(h f).2.2 f _ _ (Nat.le_refl _) hf
end
end Go.AM
namespace Go.Proofs.YthakfmmgnjpmdaaGreat
open Go.AM Go.ChangeShapes Go.WideShapes Go.ChangeAt Go.RowKit
set_option maxRecDepth 8000
section
variable {H:Type} {enc:TypeId × Value->H} {w:World}
abbrev RD(enc:TypeId × Value->H)(w:World)(N:Nat)(t:TypeId)(n:Nat){α : Type}(E : α->List AV)(G : α->Prop): Prop:=Reads enc Tryz.prog w N t n E G
def AP(N:Nat){t:TypeId}(ht:Tryz.prog.underlying t=some (.int .i64))(hc:Tryz.prog.cellsOf t=1): RD enc w N t 1 (fun n:Int=>[I n]) mz:=Reads.int ht hc
def E8(N:Nat): RD enc w N 9 1 (fun s:aS=>[.str s]) (fun _=>True):=Reads.str Tryz.underlying9 (by kernel_rfl)
def Rf(N:Nat): RD enc w N 3 1 (fun n:Int=>[I n]) mz:=AP N Tryz.underlying3 (by kernel_rfl)
def agx(v:aH): List AV:=[I v.kind,I v.n,.str v.s]
def rd_val(N:Nat): RD enc w (N+1) 55 3 agx vV:=by
 have h:=Reads.struct (enc:=enc) (w:=w) (N:=N) (n:=3) Tryz.underlying55 (by kernel_rfl) (fun _=>rfl) (.cons (AP N Tryz.underlying53 (by kernel_rfl)) rfl (.cons (Rf N) rfl (.cons (E8 N) rfl .nil)));exact h.map (fun p=>⟨p.1,p.2.1,p.2.2.1⟩) (fun _=>rfl) (fun _=>rfl) (fun p h=>h.2.1)
def FB(N:Nat): RD enc w (N+2) 28 1 (fun l:List aH=>[aL l]) (fun l=> ∀ v ∈ l,vV v) :=
 Reads.slice EV bD Tryz.underlying28 (by kernel_rfl) (rd_val N) (by decide) rfl (fun _=>rfl) (fun _ _ _=>rfl)
def abS(N:Nat): RD enc w (N+3) 34 1 (fun l:List (List aH)=>[cu l]) (fun l=> ∀ r ∈ l,∀ v ∈ r,vV v):=by
 refine Reads.slice E1 aL Tryz.underlying34 (by kernel_rfl) (FB N) (by decide) rfl (fun _=>rfl) ?_;intro s c hc;have h0:c=0:=by omega
 subst h0;rfl
def abT(N:Nat): RD enc w (N+1) 33 1 (fun l:List Int=>[cJ l]) (fun l=> ∀ n ∈ l,mz n):=by
 refine Reads.slice E1 lG Tryz.underlying33 (by kernel_rfl) (Rf N) (by decide) rfl (fun _=>rfl) ?_;intro s c hc;have h0:c=0:=by omega
 subst h0;rfl
structure agy where
 err:Int
 rules:List Int
 rows:List (List aH)
deriving Inhabited
def aeB(o:agy): List AV:=[I o.err,cJ o.rules,cu o.rows]
def adD(N:Nat): RD enc w (N+4) 36 3 aeB (fun o=>mz o.err/\(∀ n ∈ o.rules,mz n)/\ ∀ r ∈ o.rows,∀ v ∈ r,vV v):=by
 have h:=Reads.struct (enc:=enc) (w:=w) (N:=N+3) (n:=3) Tryz.underlying36 (by kernel_rfl) (fun _=>rfl) (.cons (AP _ Tryz.underlying32 (by kernel_rfl)) rfl (.cons (abT (N+2)) rfl (.cons (abS N) rfl .nil)));exact h.map (fun p=>⟨p.1,p.2.1,p.2.2.1⟩) (fun _=>rfl) (fun _=>rfl) (fun p h=>⟨h.1,h.2.1,h.2.2.1⟩)
def adE(N:Nat): RD enc w (N+5) 38 6 nj E6:=by
 have h:=Reads.struct (enc:=enc) (w:=w) (N:=N+4) (n:=6) Tryz.underlying38 (by kernel_rfl) (fun _=>rfl) (.cons (E8 _) rfl (.cons (Rf _) rfl (.cons (FB (N+2)) rfl (.cons (adD N) rfl .nil))));exact h.map (fun p=>(⟨p.1,p.2.1,p.2.2.1,p.2.2.2.1.err,p.2.2.2.1.rules,p.2.2.2.1.rows⟩:jl)) (fun _=>rfl) (fun _=>rfl) (fun p h=>⟨h.2.1,h.2.2.1,h.2.2.2.1.1,h.2.2.2.1.2.1,h.2.2.2.1.2.2⟩)
def VW{v:Value}{d:DataW H}{ps:List MemPlace}{base:Nat}(hval:Value.okWide Tryz.prog w .any base 38 v)(hd:DataW.Trod enc Tryz.prog w 0 (fun _=>true) true 38 v d ps): ∃ e:jl,E6 e/\VR (aM.all w) w (iC e) v:=by
 obtain⟨cs,rfl,_⟩:=Go.WideShapes.okWide_struct Tryz.underlying38 hval
 obtain⟨t,h1,h2⟩:=Reads.deep (fun N=>by
  have:=adE (enc:=enc) (w:=w) N;exact⟨this.1,this.2.1,fun f cs x hf hx=>this.2.2 f cs x (by omega) hx⟩) hd
 exact⟨t,h1,q9.agg h2 rfl⟩
end
def own: ownKnob Tryz.prog.godebug=none:=by kernel_rfl
def kids: Kids Tryz.prog (· < Tryz.prog.types.size):=kids_rows (by kernel_rfl) (by kernel_rfl)
def full: ∀ t e,t<Tryz.prog.types.size->Tryz.prog.underlying t=some (.slice e)->0<Tryz.prog.cellsOf e:=slices_full_of Tryz.prog (by kernel_rfl)
def aat(W:World): AU (aM.all W) W:=⟨fun b hb=>(by simp[T5]at hb),trivial⟩
def aas {H : Type} {enc : TypeId × Value -> H} {os : Os} {f : FuncId} {fn : Func} {s : ChangeSpec}
    (started:os.Started) (noInit:Tryz.checked.prog.inits.idxOf? f=none) (hfn:Tryz.checked.prog.funcs[f]? = some fn)
    (witness : ∃ (w : World) (tape : Tape) (i : Input), w.os = os /\ (w.forCall tape i).Shaped Tryz.checked.prog /\ i.vars = [] /\ Input.okWide Tryz.checked.prog (w.forCall tape i) .any w.heap.size f i /\
      s.pre6 enc Tryz.checked.prog fn [] false (w.forCall tape i).memory i.args/\({}:Assume).holds Tryz.checked.prog (lone (Frame.enter Tryz.checked.prog f i.args .normal) [] (w.forCall tape i)))
    (contract : ∀ (W : World) (base : Nat) (args : Array Value) (ds gs : List (DataW H)) (before : List MemPlace),
      (∀(j:Nat) t v,fn.params[j]? = some t->args[j]? = some v->Value.okWide Tryz.prog W .any base t v) ->
      DataW.Whole enc Tryz.prog fn.params.toList s.vars false W args.toList ds gs before ->
      (DataW.weightsEach Tryz.prog (fn.params.toList++s.plain.varTypes Tryz.prog) (ds++gs)).all (·<=reachBytes)=true ->
      Calls Tryz.prog f args W fun e W'=> ∃ v,e = .returned v/\s.post enc Tryz.prog fn false true false false W args v W') :
    ReturnsInHanded {} Tryz.checked os f .any (s.pre6 enc Tryz.checked.prog fn [] false) (s.post enc Tryz.checked.prog fn false true false false):=by
 have e:s.pre6 enc Tryz.checked.prog fn [] false=fun w args=>(s.pre enc Tryz.checked.prog fn [] false w args/\True)/\sizedMet enc Tryz.checked.prog fn (OpenSpec.ofChange s) false w args:=by
  funext w args;simp[ChangeSpec.pre6]
 rw[e];refine returnsInHanded_of_change_and (C:=Tryz.checked) (X:=fun _ _=>True) (fun _ _ _ _ _=>trivial) own started noInit hfn ?_ ?_
 ·obtain⟨w,tape,i,h1,h2,h3,h4,h5,h6⟩:=witness;exact⟨w,tape,i,h1,h2,h3,h4,⟨⟨h5.1,trivial⟩,h5.2⟩,h6⟩
 ·intro W base args ds gs before h1 h2 _ h3 _ _;exact contract W base args ds gs before h1 h2 h3
end Go.Proofs.YthakfmmgnjpmdaaGreat
namespace Go.Proofs.YthakfmmgnjpmdaaGreat
open Go.AM
set_option maxRecDepth 8000
section
variable {H:Type} {enc:TypeId × Value->H} {w:World}
abbrev agz(n:Int): Prop:= -9223372036854775808<=n/\n<=9223372036854775807
def abU(N:Nat): RD enc w N 53 1 (fun n:Int=>[I n]) agz:=AP N Tryz.underlying53 (by kernel_rfl)
def agA(c:bQ): List AV:=[.str c.name,I c.kind,aL c.order]
def adF(N:Nat): RD enc w (N+3) 78 3 agA (fun c=> ∀ v ∈ c.order,vV v):=by
 have h:=Reads.struct (enc:=enc) (w:=w) (N:=N+2) (n:=3) Tryz.underlying78 (by kernel_rfl) (fun _=>rfl) (.cons (E8 _) rfl (.cons (abU _) rfl (.cons (FB N) rfl .nil)));exact h.map (fun p=>⟨p.1,p.2.1,p.2.2.1⟩) (fun _=>rfl) (fun _=>rfl) (fun p h=>h.2.2.1)
def T3(N:Nat): RD enc w (N+4) 22 1 (fun l:List bQ=>[aY l]) VP :=
 Reads.slice EC bW Tryz.underlying22 (by kernel_rfl) (adF N) (by decide) rfl (fun _=>rfl) (fun _ _ _=>rfl)
def T4(N:Nat): RD enc w (N+1) 50 1 (fun l:List aS=>[lJ l]) (fun _=>True):=by
 refine(Reads.slice E1 gf Tryz.underlying50 (by kernel_rfl) (E8 N) (by decide) rfl (fun _=>rfl) ?_).weak (fun _ _=>trivial);intro s c hc;have h0:c=0:=by omega
 subst h0;rfl
def aeC(r:kX): List AV:=[lJ r.cells,lJ r.outs]
def abV(N:Nat): RD enc w (N+2) 52 2 aeC (fun _=>True):=by
 have h:=Reads.struct (enc:=enc) (w:=w) (N:=N+1) (n:=2) Tryz.underlying52 (by kernel_rfl) (fun _=>rfl) (.cons (T4 N) rfl (.cons (T4 N) rfl .nil));exact h.map (fun p=>⟨p.1,p.2.1⟩) (fun _=>rfl) (fun _=>rfl) (fun p h=>trivial)
def aaq(N:Nat): RD enc w (N+3) 25 1 (fun l:List kX=>[dy l]) (fun _=>True) :=
 (Reads.slice ER dN Tryz.underlying25 (by kernel_rfl) (abV N) (by decide) rfl (fun _=>rfl) (fun _ _ _=>rfl)).weak (fun _ _=>trivial)
def aar(N:Nat): RD enc w (N+5) 27 6 eJ Bh:=by
 have h:=Reads.struct (enc:=enc) (w:=w) (N:=N+4) (n:=6) Tryz.underlying27 (by kernel_rfl) (fun _=>rfl) (.cons (E8 _) rfl (.cons (T3 N) rfl (.cons (T3 N) rfl (.cons (AP _ Tryz.underlying23 (by kernel_rfl)) rfl (.cons (AP _ Tryz.underlying24 (by kernel_rfl)) rfl (.cons (aaq (N+1)) rfl .nil))))));exact h.map (fun p=>⟨p.1,p.2.1,p.2.2.1,p.2.2.2.1,p.2.2.2.2.1,p.2.2.2.2.2.1⟩) (fun _=>rfl) (fun _=>rfl) (fun p h=>⟨h.2.1,h.2.2.1⟩)
def OA{v:Value}{d:DataW H}{ps:List MemPlace}{base:Nat}(hval:Value.okWide Tryz.prog w .any base 27 v)(hd:DataW.Trod enc Tryz.prog w 0 (fun _=>true) true 27 v d ps): ∃ t:Table,Bh t/\VR (aM.all w) w (cI t) v:=by
 obtain⟨cs,rfl,_⟩:=Go.WideShapes.okWide_struct Tryz.underlying27 hval
 obtain⟨t,h1,h2⟩:=Reads.deep (fun N=>by
  have:=aar (enc:=enc) (w:=w) N;exact⟨this.1,this.2.1,fun f cs x hf hx=>this.2.2 f cs x (by omega) hx⟩) hd
 exact⟨t,h1,q9.agg h2 rfl⟩
end
end Go.Proofs.YthakfmmgnjpmdaaGreat
namespace Go.Proofs.YthakfmmgnjpmdaaGreat
open Go.AM Go.ChangeShapes Go.WideShapes Go.ChangeAt Go.RowKit
set_option maxRecDepth 8000
section
variable {H:Type} {enc:TypeId × Value->H} {w:World}
def ab2{v:Value}{d:DataW H}{ps:List MemPlace}{base:Nat}(hval:Value.okWide Tryz.prog w .any base 28 v)(hd:DataW.Trod enc Tryz.prog w 0 (fun _=>true) true 28 v d ps): ∃ l:List aH,(∀ c ∈ l,vV c)/\VR (aM.all w) w (aL l) v:=by
 obtain⟨a,len,cap,rfl⟩:=Go.WideShapes.okWide_slice Tryz.underlying28 hval
 obtain⟨t,h1,h2⟩:=Reads.deep (fun N=>by
  have:=FB (enc:=enc) (w:=w) N;exact⟨this.1,this.2.1,fun f cs x hf hx=>this.2.2 f cs x (by omega) hx⟩) hd
 exact⟨t,h1,h2.2 0 (by simp)⟩
end
def aau {a b c : AV} {x y z : Value} {g : aM} {w : World} (h1 : VR g w a x) (h2 : VR g w b y) (h3 : VR g w c z) :
    ∀ i,i<[a,b,c].length->VR g w ([a,b,c].getD i .undef) (#[x,y,z].getD i Go.undef):=by
 intro i hi
 match i,hi with
 | 0,_=>exact h1
 | 1,_=>exact h2
 | 2,_=>exact h3
def VQ: Value:= .agg #[.string ByteArray.empty,.slice none 0 0,.slice none 0 0,.int .i64 0,.int .i64 0,.slice none 0 0]
def ab3: Value:= .agg #[.string ByteArray.empty,.int .i64 0,.slice none 0 0,.int .i64 0,.slice none 0 0,.slice none 0 0]
