/- Part. -/
import Derived.Test.YtmbgnaoilncbnaaGreatDoorX31
set_option linter.all false
namespace Go.Proofs.YtmbgnaoilncbnaaGreatDoor
open Go.AM
set_option maxRecDepth 4000
def jG(n:Int): Prop:= -9223372036854775808<=n/\n<=9223372036854775807
def yl(l:List eg): Prop:=l.length<=2 ^ 30/\ ∀ v ∈ l,jG v.n/\v.s.length<=2 ^ 30
def mZ(o:Bool)(c:cI): aJ:=bC c.name++cG c.kind++(if o then mY c.order else [])
def kU(o:Bool)(l:List cI): aJ:=cG l.length++l.flatMap (mZ o)
def gV(r:dO): aJ:=r.cells.flatMap bC++r.outs.flatMap bC
def vY(t:Table): aJ:=bC t.name++cG t.bA++cG t.agg++kU false t.ins++kU true t.outs++cG t.rules.length++t.rules.flatMap gV
def ez(t:Table): aJ × Int:=if(iK t).2.2.2≠0 then([],(iK t).2.2.2)else if iX (iK t).1 t=false then([],4)else if 1400<(vY t).length then([],5)else (vY t,0)
def ij(s:aJ)(b:Bool): Int × aJ × Bool:=((takeN s).1,(takeN s).2.1,b ||(takeN s).2.2 != 0)
def fM(s:aJ)(b:Bool): aJ × aJ × Bool:=((cj s 1400).1,(cj s 1400).2.1,b ||(cj s 1400).2.2 != 0)
def pZ(o:Option Int)(s:aJ)(b:Bool): List eg × aJ × Bool:=match o with
 | none=>([],s,b)
 | some m=>((ig s m).1,(ig s m).2.1,b ||(ig s m).2.2 != 0)
def n7(o:Option Int)(s:aJ)(b:Bool): cI × aJ × Bool :=
 let t:=fM s b
 let n:=ij t.2.1 t.2.2
 let q:=pZ o n.2.1 n.2.2
 (⟨t.1,n.1,q.1⟩,q.2.1,q.2.2)
def kV(o:Option Int): Nat->List cI->aJ->Bool->List cI × aJ × Bool
 | 0,out,s,b=>(out,s,b)
 | k+1,out,s,b=>if b then(out,s,b)else kV o k (out++[(n7 o s b).1]) (n7 o s b).2.1 (n7 o s b).2.2
def fH(o:Option Int)(s:aJ)(b:Bool): List cI × aJ × Bool:=kV o (ij s b).1.toNat [] (ij s b).2.1 (ij s b).2.2
def eO: Nat->List aJ->aJ->Bool->List aJ × aJ × Bool
 | 0,out,s,b=>(out,s,b)
 | k+1,out,s,b=>eO k (out++[(fM s b).1]) (fM s b).2.1 (fM s b).2.2
def m_(z:Bool)(w v:Nat)(s:aJ)(b:Bool): dO × aJ × Bool :=
 let c:=eO w [] s b
 let o:=eO v [] c.2.1 c.2.2
 (⟨c.1,o.1⟩,o.2.1,o.2.2 ||(z && w+v==0))
def jr(z:Bool)(w v:Nat): Nat->List dO->aJ->Bool->List dO × aJ × Bool
 | 0,out,s,b=>(out,s,b)
 | k+1,out,s,b=>if b then(out,s,b)else jr z w v k (out++[(m_ z w v s b).1]) (m_ z w v s b).2.1 (m_ z w v s b).2.2
def FK(z:Bool)(n:Int): Nat:=if z then n.toNat else(min n 25).toNat
def O4(z:Bool): Int:=if z then 1400 else 8
def iU(z:Bool)(s:aJ): Table × aJ × Bool :=
 let a:=fM s false
 let p:=ij a.2.1 a.2.2
 let g:=ij p.2.1 p.2.2
 let i:=fH none g.2.1 g.2.2
 let o:=fH (some (O4 z)) i.2.1 i.2.2
 let n:=ij o.2.1 o.2.2
 let r:=jr z i.1.length o.1.length (FK z n.1) [] n.2.1 n.2.2
 (⟨a.1,i.1,o.1,p.1,g.1,r.1⟩,r.2.1,r.2.2)
def fX(z:Bool)(s:aJ): Table × Int :=
 if 1400<s.length then(bM,5)else if(iU z s).2.2=true\/(z=true/\(iU z s).2.1≠[])\/ez (iU z s).1≠(s,0)then (bM,4)else ((iU z s).1,0)
def Mt(o:Bool)(c:cI): Prop:=c.name.length<=1400/\jG c.kind/\(o=false->c.order=[])/\c.order.length<=8/\ ∀ v ∈ c.order,bL v=true/\jG v.n
def aaO(t:Table): Prop:=t.name.length<=1400/\jG t.bA/\jG t.agg/\(t.ins.length<=6/\ ∀ c ∈ t.ins,Mt false c)/\(0<t.outs.length/\t.outs.length<=6/\ ∀ c ∈ t.outs,Mt true c)/\t.rules.length<=24 /\
 ∀ r ∈ t.rules,r.cells.length=t.ins.length/\r.outs.length=t.outs.length/\(∀ s ∈ r.cells,s.length<=1400)/\ ∀ s ∈ r.outs,s.length<=1400
def DV{n:Int}(h:jG n)(r:aJ): ij (cG n++r) false=(n,r,false):=by unfold ij;rw[jZ h];rfl
def Ip{s:aJ}(h:s.length<=1400)(r:aJ): fM (bC s++r) false=(s,r,false):=by unfold fM;rw[ur (by omega) (by omega)];rfl
def adF{o:Option Int}{c:cI}(h:Mt o.isSome c)(ho:∀ m,o=some m->8<=m)(r:aJ): n7 o (mZ o.isSome c++r) false=(c,r,false):=by
 obtain⟨h1,h2,h3,h4,h5⟩:=h;unfold n7 mZ;rw[List.append_assoc,List.append_assoc,Ip h1];dsimp only;rw[DV h2];dsimp only;cases o with
 | none =>
   have:=h3 rfl;obtain⟨a,b,l⟩:=c;dsimp only at this;subst this;rfl
 | some m =>
   have:=ho m rfl;simp only[Option.isSome_some,if_true,pZ];rw[TC h5 (by omega) (by omega)];rfl
def aaP{o:Option Int}(ho:∀ m,o=some m->8<=m)(r:aJ): ∀(l out:List cI),(∀ c ∈ l,Mt o.isSome c)->kV o l.length out (l.flatMap (mZ o.isSome)++r) false=(out++l,r,false):=by
 intro l
 induction l with
 | nil=>intro out _;simp[kV]
 | cons c l ih =>
   intro out h;rw[List.length_cons,kV,de,List.append_assoc,adF (h c (by simp)) ho,if_neg (by simp),ih _ (fun w hw=>h w (by simp[hw]))];simp
def JB{o:Option Int}(ho:∀ m,o=some m->8<=m){l:List cI}(hl:l.length<=6)(h:∀ c ∈ l,Mt o.isSome c)(r:aJ): fH o (kU o.isSome l++r) false=(l,r,false):=by
 unfold fH kU;rw[List.append_assoc,DV ⟨by omega,by omega⟩];dsimp only;rw[er,aaP ho r l [] h];simp
def LU(r:aJ): ∀(l out:List aJ),(∀ s ∈ l,s.length<=1400)->eO l.length out (l.flatMap bC++r) false=(out++l,r,false):=by
 intro l
 induction l with
 | nil=>intro out _;simp[eO]
 | cons c l ih =>
   intro out h;rw[List.length_cons,eO,de,List.append_assoc,Ip (h c (by simp)),ih _ (fun w hw=>h w (by simp[hw]))];simp
def WW {z : Bool} {w v : Nat} (hv : 0 < v) (r : aJ) : ∀ (l out : List dO), (∀ x ∈ l, x.cells.length = w /\ x.outs.length = v /\ (∀ s ∈ x.cells, s.length <= 1400) /\ ∀ s ∈ x.outs, s.length <= 1400) ->
    jr z w v l.length out (l.flatMap gV++r) false=(out++l,r,false):=by
 intro l
 induction l with
 | nil=>intro out _;simp[jr]
 | cons c l ih =>
   intro out h;have hc:=h c (by simp)
   have e:m_ z w v (gV c++(l.flatMap gV++r)) false=(c,l.flatMap gV++r,false):=by
    unfold m_ gV;rw[List.append_assoc,<-hc.1,<-hc.2.1,LU _ _ _ hc.2.2.1];dsimp only;rw[LU _ _ _ hc.2.2.2];have:(c.cells.length+c.outs.length==0)=false:=by rw[beq_eq_false_iff_ne];omega
    simp[this]
   rw[List.length_cons,jr,de,List.append_assoc,e,if_neg (by simp),ih _ (fun w hw=>h w (by simp[hw]))];simp
def Ya{t:Table}(h:aaO t)(z:Bool): iU z (vY t)=(t,[],false):=by
 obtain⟨h1,h2,h3,⟨h4,h5⟩,⟨h6,h7,h8⟩,h9,h10⟩:=h;unfold iU vY;simp only[List.append_assoc];rw[Ip h1];dsimp only;rw[DV h2];dsimp only;rw[DV h3];dsimp only;have e1:=JB (o:=none) (fun m hm=>by cases hm) h4 h5;have e2:=JB (o:=some (O4 z)) (fun m hm=>by cases hm;unfold O4;split<;>omega) h7 h8;simp only[Option.isSome_none,Option.isSome_some]at e1 e2;rw[e1];dsimp only;rw[e2];dsimp only;rw[DV ⟨by omega,by omega⟩];dsimp only;have e3:=WW (z:=z) h6 [] t.rules [] h10;have e4:FK z (t.rules.length:Int)=t.rules.length:=by unfold FK;split<;>omega
 rw[List.append_nil]at e3;rw[e4,e3];simp
def O5(o:Option Int)(s:aJ)(b:Bool): (n7 o s b).2.1.length<=s.length/\((n7 o s b).2.2=false->(n7 o s b).2.1.length<s.length):=by
 have h1:=jh s 1400;have h2:=dZ (cj s 1400).2.1;cases o with
 | none =>
   unfold n7 fM ij pZ;dsimp only;refine⟨by omega,fun h=>?_⟩;simp only[fB,bne_eq_false_iff_eq]at h;have:=h1.2.2.1 h.1.2;omega
 | some m =>
   have h3:=O3 (takeN (cj s 1400).2.1).2.1 m;unfold n7 fM ij pZ;dsimp only;refine⟨by omega,fun h=>?_⟩;simp only[fB,bne_eq_false_iff_eq]at h;have:=h1.2.2.1 h.1.1.2;omega
def LV(n:Nat)(c:cI): Prop:=c.name.length<=n/\c.order.length<=n/\jG c.kind/\ ∀ v ∈ c.order,bL v=true/\jG v.n
def aeS(o:Option Int)(s:aJ)(b:Bool){n:Nat}(hn:s.length<=n): LV n (n7 o s b).1:=by
 have h1:=jh s 1400;have h2:=dZ (cj s 1400).2.1;have h4:=j0 (cj s 1400).2.1;cases o with
 | none=>exact⟨by unfold n7 fM;dsimp only;omega,by simp[n7,pZ],h4,fun v hv=>by simp[n7,pZ]at hv⟩
 | some m =>
   have h3:=O3 (takeN (cj s 1400).2.1).2.1 m;exact⟨by unfold n7 fM;dsimp only;omega,by unfold n7 pZ ij fM;dsimp only;omega,h4,h3.2.1⟩
def adG (o : Option Int) : ∀ (k : Nat) (out : List cI) (s : aJ) (b : Bool) (n : Nat), s.length <= n -> (∀ c ∈ out, LV n c) ->
    (kV o k out s b).2.1.length<=s.length/\(kV o k out s b).1.length<=out.length+s.length+1/\ ∀ c ∈ (kV o k out s b).1,LV n c:=by
 intro k
 induction k with
 | zero=>intro out s b n hn h;exact⟨by simp[kV],by simp[kV];omega,h⟩
 | succ k ih =>
   intro out s b n hn h;rw[kV];have h1:=O5 o s b;have h2:=aeS o s b hn
   have h3:∀ c ∈ out++[(n7 o s b).1],LV n c:=fun w hw=>by
    rcases List.mem_append.1 hw with hw|hw
    ·exact h w hw
    ·rw[List.mem_singleton.1 hw];exact h2
   split
   ·exact⟨by simp,by simp;omega,h⟩
   ·have h4:=ih _ (n7 o s b).2.1 (n7 o s b).2.2 n (by omega) h3;refine⟨by omega,?_,h4.2.2⟩;cases hb:(n7 o s b).2.2 with
    | true =>
      cases k with
      | zero=>simp[kV]
      | succ k=>simp[kV]
    | false =>
      rw[hb]at h4;have:=h1.2 hb;have:=h4.2.1;simp only[List.length_append,List.length_singleton]at this;omega
def rS(o:Option Int)(s:aJ)(b:Bool){n:Nat}(hn:s.length<=n): (fH o s b).2.1.length<=s.length/\(fH o s b).1.length<=n+1/\ ∀ c ∈ (fH o s b).1,LV n c:=by
 have h2:=dZ s;have:=adG o (ij s b).1.toNat [] (ij s b).2.1 (ij s b).2.2 n (by unfold ij;dsimp only;omega) (by simp);have e:(ij s b).2.1=(takeN s).2.1:=rfl;rw[List.length_nil]at this;unfold fH;rw[e]at this ⊢;exact⟨by omega,by omega,this.2.2⟩
def Q7: ∀(k:Nat) (out:List aJ) (s:aJ),(eO k out s true).2.2=true:=by
 intro k
 induction k with
 | zero=>intros;rfl
 | succ k ih=>intro out s;rw[eO];exact ih _ _
def Ap : ∀ (k : Nat) (out : List aJ) (s : aJ) (b : Bool) (n : Nat), s.length <= n -> (∀ c ∈ out, c.length <= n) ->
    (eO k out s b).2.1.length<=s.length/\(eO k out s b).1.length=out.length+k/\(∀ c ∈ (eO k out s b).1,c.length<=n)/\(0<k->(eO k out s b).2.2=false->(eO k out s b).2.1.length<s.length):=by
 intro k
 induction k with
 | zero=>intro out s b n hn h;exact⟨by simp[eO],by simp[eO],h,fun h=>absurd h (by omega)⟩
 | succ k ih =>
   intro out s b n hn h;rw[eO];have h1:=jh s 1400;have e1:(fM s b).1=(cj s 1400).1:=rfl;have e2:(fM s b).2.1=(cj s 1400).2.1:=rfl
   have h3:∀ c ∈ out++[(fM s b).1],c.length<=n:=fun w hw=>by
    rcases List.mem_append.1 hw with hw|hw
    ·exact h w hw
    ·rw[List.mem_singleton.1 hw,e1];omega
   have h4:=ih _ (fM s b).2.1 (fM s b).2.2 n (by rw[e2];omega) h3;rw[List.length_append,List.length_singleton,e2]at h4;rw[e2];refine⟨by omega,by omega,h4.2.2.1,fun _ hb=>?_⟩
   have hb2:(fM s b).2.2=false:=by
    cases hq:(fM s b).2.2 with
    | false=>rfl
    | true=>rw[hq,Q7]at hb;cases hb
   unfold fM at hb2;simp only[fB,bne_eq_false_iff_eq]at hb2;have:=(h1.2.2.1 hb2.2).1;omega
def okR(n w v:Nat)(r:dO): Prop:=r.cells.length=w/\r.outs.length=v/\(∀ s ∈ r.cells,s.length<=n)/\ ∀ s ∈ r.outs,s.length<=n
def O6(z:Bool)(w v:Nat)(s:aJ)(b:Bool){n:Nat}(hn:s.length<=n): okR n w v (m_ z w v s b).1/\(m_ z w v s b).2.1.length<=s.length/\(z=true->(m_ z w v s b).2.2=false->(m_ z w v s b).2.1.length<s.length):=by
 have h1:=Ap w [] s b n hn (by simp);have h2:=Ap v [] (eO w [] s b).2.1 (eO w [] s b).2.2 n (by omega) (by simp);rw[List.length_nil]at h1 h2;refine⟨⟨by unfold m_;dsimp only;omega,by unfold m_;dsimp only;omega,h1.2.2.1,h2.2.2.1⟩,by unfold m_;dsimp only;omega,fun hz hb=>?_⟩;unfold m_ at hb ⊢;dsimp only at hb ⊢;simp only[fB,hz,dA,beq_eq_false_iff_ne]at hb;by_cases hv:0<v
 ·have:=h2.2.2.2 hv hb.1;omega
 ·have hw:0<w:=by omega
  have hb1:(eO w [] s b).2.2=false:=by
   cases hq:(eO w [] s b).2.2 with
   | false=>rfl
   | true=>rw[hq,Q7]at hb;cases hb.1
  have:=h1.2.2.2 hw hb1;omega
def ab6 (z : Bool) (w v : Nat) : ∀ (k : Nat) (out : List dO) (s : aJ) (b : Bool) (n : Nat), s.length <= n -> (∀ r ∈ out, okR n w v r) ->
    (jr z w v k out s b).1.length<=out.length+(if z then s.length+1 else k)/\(∀ r ∈ (jr z w v k out s b).1,okR n w v r):=by
 intro k
 induction k with
 | zero=>intro out s b n hn h;exact⟨by simp[jr],h⟩
 | succ k ih =>
   intro out s b n hn h;rw[jr];have h1:=O6 z w v s b hn
   have h3:∀ c ∈ out++[(m_ z w v s b).1],okR n w v c:=fun w hw=>by
    rcases List.mem_append.1 hw with hw|hw
    ·exact h _ hw
    ·rw[List.mem_singleton.1 hw];exact h1.1
   split
   ·exact⟨by simp,h⟩
   ·have h4:=ih _ (m_ z w v s b).2.1 (m_ z w v s b).2.2 n (by omega) h3;refine⟨?_,h4.2⟩;rw[List.length_append,List.length_singleton]at h4;cases z with
    | false=>have:=h4.1;simp at this ⊢;omega
    | true =>
      simp only[if_true]at h4 ⊢;cases hb:(m_ true w v s b).2.2 with
      | true =>
        cases k with
        | zero=>simp[jr]
        | succ k=>simp[jr]
      | false =>
        rw[hb]at h4;have:=h1.2.2 rfl hb;have:=h4.1;omega
def lB(s:aJ)(b:Bool): jG (ij s b).1/\(ij s b).2.1.length<=s.length:=⟨j0 s,(dZ s).1⟩
def qp(s:aJ)(b:Bool): (fM s b).1.length<=s.length/\(fM s b).2.1.length<=s.length:=⟨(jh s 1400).1,(jh s 1400).2.1⟩
def Zi{c:cI}(hc:LV 1400 c): uq c:=by
 refine⟨by have:=hc.1;omega,by have:=hc.2.1;omega,fun v hv=>⟨(hc.2.2.2 v hv).2,?_⟩⟩;rcases vz (hc.2.2.2 v hv).1 with⟨_,h⟩|⟨_,h⟩|⟨_,_,h⟩|⟨_,h⟩
 ·rw[h];decide
 ·rw[h];decide
 ·omega
 ·rw[h];decide
def DW(z:Bool){s:aJ}(hs:s.length<=1400): mh (iU z s).1/\jG (iU z s).1.bA/\jG (iU z s).1.agg/\(∀ c ∈ (iU z s).1.ins,LV 1400 c)/\ ∀ c ∈ (iU z s).1.outs,LV 1400 c:=by
 unfold iU;dsimp only;have h1:=qp s false;generalize fM s false=a at *;have h2:=lB a.2.1 a.2.2;generalize ij a.2.1 a.2.2=p at *;have h3:=lB p.2.1 p.2.2;generalize ij p.2.1 p.2.2=g at *;have h4:=rS none g.2.1 g.2.2 (n:=1400) (by omega);generalize fH none g.2.1 g.2.2=i at *;have h5:=rS (some (O4 z)) i.2.1 i.2.2 (n:=1400) (by omega);generalize fH (some (O4 z)) i.2.1 i.2.2=o at *;have h6:=lB o.2.1 o.2.2;generalize ij o.2.1 o.2.2=n at *;have h7:=ab6 z i.1.length o.1.length (FK z n.1) [] n.2.1 n.2.2 1400 (by omega) (by simp);generalize jr z i.1.length o.1.length (FK z n.1) [] n.2.1 n.2.2=r at *
 have h8:r.1.length<=1402:=by
  have:=h7.1;rw[List.length_nil]at this;cases z with
  | true=>simp only[if_true]at this;omega
  | false=>simp only[Bool.false_eq_true,if_false,FK]at this;omega
 refine⟨⟨by dsimp only;omega,⟨by dsimp only;omega,fun c hm=>Zi (h4.2.2 c hm)⟩,⟨by dsimp only;omega,fun c hm=>Zi (h5.2.2 c hm)⟩,by dsimp only;omega,fun x hx=>?_⟩,h2.1,h3.1,h4.2.2,h5.2.2⟩;have hr:=h7.2 x hx;exact⟨⟨by have:=hr.1;omega,fun s hs=>by have:=hr.2.2.1 s hs;omega⟩,by have:=hr.2.1;omega,fun s hs=>by have:=hr.2.2.2 s hs;omega⟩
def Yb{z:Bool}{s:aJ}{t:Table}(h:aaO t)(hb:ez t=(s,0))(hs:s=vY t)(hl:s.length<=1400): fX z s=(t,0):=by
 unfold fX;rw[if_neg (by omega)];have:=Ya h z;rw[<-hs]at this;rw[this];dsimp only;rw[if_neg (by simp[hb])]
def NP{t:Table}{s:aJ}(h:ez t=(s,0)): (iK t).2.2.2=0/\iX (iK t).1 t=true/\s=vY t/\s.length<=1400:=by
 unfold ez at h;split at h
 ·rename_i h1;injection h with _ h2;exact absurd h2 h1
 split at h
 ·injection h with _ h2;cases h2
 split at h
 ·injection h with _ h2;cases h2
 ·rename_i h1 h2 h3;injection h with h4 _;exact⟨by omega,by simpa using h2,h4.symm,by rw[<-h4];omega⟩
def tN(z:Bool)(s:aJ): (1400<s.length/\fX z s=(bM,5))\/s.length<=1400/\(fX z s=(bM,4)\/ ∃ t,fX z s=(t,0)/\ez t=(s,0)/\t=(iU z s).1):=by
 unfold fX;split
 ·left;exact⟨by omega,rfl⟩
 ·right;refine⟨by omega,?_⟩;split
  ·left;rfl
  ·rename_i h;right;exact⟨_,rfl,by simpa using (not_or.1 (not_or.1 h).2).2,rfl⟩
def Sx{α : Type}{f : α->aJ}{l:List α}{x : α}(h:x ∈ l): (f x).length<=(l.flatMap f).length:=by
 induction l with
 | nil=>cases h
 | cons y l ih =>
   rw[de,List.length_append];rcases List.mem_cons.1 h with rfl|h
   ·omega
   ·have:=ih h;omega
def Ff{l:List cI}(h:jn l=0): l.length<=6/\ ∀ c ∈ l,gE c.name=true/\1<=c.kind/\c.kind<=3:=by
 have h6:l.length<=6:=by
  unfold jn at h;split at h
  ·omega
  ·omega
 refine⟨h6,fun c hc=>?_⟩;obtain⟨i,hi,rfl⟩:=bW hc;have e:l[i]=l.getD i default:=by rw[aE,aQ hi];rfl
 rw[e];refine⟨?_,QS h hi⟩;unfold jn at h;rw[if_neg (by omega)]at h;split at h
 ·rename_i j hj;have:=eX hj;simp[h]at this
 ·rename_i hn;have:=dG.1 hn i (by simpa using hi);have h0:wm l i=0:=by simpa using this
  unfold wm at h0;split at h0
  ·omega
  ·rename_i hh;have:=not_or.1 hh;simpa using this.1
def tO{s:aJ}(h:gE s=true): s.length<=16:=by
 simp only[gE,aF,decide_eq_true_eq]at h;exact h.1.2
def Iq{l:List cI}{b:Bool}(h:jS l b=0): jn l=0/\0<l.length/\ ∀ c ∈ l,iR c b=true:=by
 obtain⟨h1,h2⟩:=LI h;refine⟨h1,h2,fun c hc=>?_⟩;unfold jS at h;rw[if_neg (by omega)]at h;split at h
 ·omega
 ·rename_i hh;have:=(not_or.1 hh).2;rw[List.any_eq_true]at this;cases hq:iR c b with
  | true=>rfl
  | false=>exact absurd ⟨c,hc,by rw[hq];rfl⟩ this
def Q8{c:cI}{b:Bool}(h:iR c b=true)(hk:uq c): (b=false->c.order=[])/\c.order.length<=8/\ ∀ v ∈ c.order,bL v=true/\jG v.n:=by
 unfold iR at h;cases b with
 | false =>
   rw[if_neg (by simp),decide_eq_true_eq]at h;have:=dS.1 h;rw[this];exact⟨fun _=>rfl,by simp,by simp⟩
 | true =>
   rw[if_pos rfl,aF,decide_eq_true_eq,bx]at h;refine⟨fun h=>(by cases h),h.2.2,fun v hv=>?_⟩;refine⟨?_,(hk.2.2 v hv).1⟩;obtain⟨i,hi,rfl⟩:=bW hv;have:=h.1 i (by simpa using hi);simp only[wq,aF]at this;have e:c.order[i]=c.order.getD i default:=by rw[aE,aQ hi];rfl
   rw[e];exact this.1.1
def NQ{t:Table}(h:lz t=true): 1<=t.bA/\t.bA<=6/\0<=t.agg/\t.agg<=4:=by
 unfold lz at h;split at h
 ·cases h
 split at h
 ·omega
 split at h
 ·cases h
 ·omega
def aeT{t:Table}{s:aJ}(ok:mh t)(h:ez t=(s,0)): aaO t:=by
 obtain⟨h1,h2,h3,h4⟩:=NP h;obtain⟨h5,_,_⟩:=NN h1;obtain⟨hf,hl,_⟩:=yj h5
 have hn:gE t.name=true:=by
  unfold iS at hf;split at hf
  ·omega
  ·rename_i hh;simpa using hh
 have hp:jS t.ins false=0/\jS t.outs (decide (t.bA=3))=0/\lz t=true/\t.rules.length<=24:=by
  unfold iS at hf;rw[hn,if_neg (by simp)]at hf;split at hf
  ·contradiction
  split at hf
  ·contradiction
  split at hf
  ·cases hf
  split at hf
  ·cases hf
  ·rename_i a b c d;exact⟨by simpa using a,by simpa using b,by simpa using c,by omega⟩
 obtain⟨p1,p2,p3,p4⟩:=hp;obtain⟨i1,i2,i3⟩:=Iq p1;obtain⟨o1,o2,o3⟩:=Iq p2;have pp:=NQ p3;have hi:=Ff i1;have ho:=Ff o1
 have hc:∀ (b b':Bool) (c:cI),(gE c.name=true/\1<=c.kind/\c.kind<=3)->iR c b=true->uq c->(b'=false->b=false)->Mt b' c:=fun b b' c q1 q2 q3 q4=>by
  have w1:=tO q1.1;have w2:=Q8 q2 q3;exact⟨by omega,⟨by omega,by omega⟩,fun e=>w2.1 (q4 e),w2.2⟩
 refine⟨by have:=tO hn;omega,⟨by omega,by omega⟩,⟨by omega,by omega⟩,⟨hi.1,fun c hm=>hc false false c (hi.2 c hm) (i3 c hm) (ok.2.1.2 c hm) (fun _=>rfl)⟩,
  ⟨o2,ho.1,fun c hm=>hc _ true c (ho.2 c hm) (o3 c hm) (ok.2.2.1.2 c hm) (fun h=>(by cases h))⟩,p4,fun r hr=>?_⟩
 obtain⟨j,hj,rfl⟩:=bW hr;have e:t.rules[j]=t.rules.getD j default:=by rw[aE,aQ hj];rfl
 have hz:=hl j hj;unfold j7 at hz;rw[<-e]at hz;obtain⟨z1,z2,_⟩:=Q5 hz;have l1:(gV t.rules[j]).length<=(t.rules.flatMap gV).length:=Sx hr
 have l2:(t.rules.flatMap gV).length<=1400:=by
  rw[h3]at h4;unfold vY at h4;simp only[List.length_append]at h4;omega
 have e1:(gV t.rules[j]).length=(t.rules[j].cells.flatMap bC).length+(t.rules[j].outs.flatMap bC).length:=by unfold gV;rw[List.length_append]
 have e2:∀ s,(bC s).length=(cG s.length).length+s.length:=fun s=>by unfold bC;rw[List.length_append]
 refine⟨z1,z2,fun s hs=>?_,fun s hs=>?_⟩
 ·have:=Sx (f:=bC) hs;have:=e2 s;omega
 ·have:=Sx (f:=bC) hs;have:=e2 s;omega
def O7{z:Bool}{s:aJ}{t:Table}(ok:mh t)(h:ez t=(s,0)): fX z s=(t,0):=by
 obtain⟨_,_,h3,h4⟩:=NP h;exact Yb (aeT ok h) h h3 h4
def adH(s:aJ): fX false s=fX true s:=by
 rcases tN false s with⟨h,e⟩|⟨hl,e|⟨t,e,hb,ht⟩⟩
 ·rcases tN true s with⟨_,e2⟩|⟨h2,_⟩
  ·rw[e,e2]
  ·omega
 ·rcases tN true s with⟨h2,_⟩|⟨_,e2|⟨t,e2,hb,ht⟩⟩
  ·omega
  ·rw[e,e2]
  ·have:=O7 (z:=false) (by rw[ht];exact(DW true hl).1) hb;rw[this,e2]
 ·rw[e];exact(O7 (by rw[ht];exact(DW false hl).1) hb).symm
def adI(z:Bool){s:aJ}(h:(fX z s).2=0): s.length<=1400/\ez (fX z s).1=(s,0)/\mh (fX z s).1:=by
 rcases tN z s with⟨_,e⟩|⟨hl,e|⟨t,e,hb,ht⟩⟩
 ·rw[e]at h;cases h
 ·rw[e]at h;cases h
 ·rw[e];exact⟨hl,hb,by rw[ht];exact(DW z hl).1⟩
def ab7(z:Bool){s:aJ}(h:(fX z s).2≠0): fX z s=(bM,4)\/1400<s.length/\fX z s=(bM,5):=by
 rcases tN z s with⟨hl,e⟩|⟨hl,e|⟨t,e,hb,ht⟩⟩
 ·exact .inr ⟨hl,e⟩
 ·exact .inl e
 ·rw[e]at h;exact absurd rfl h
def GZ{α : Type}{p : α-> α->Bool}(hp:∀ x y,p x y=true->x=y): ∀ {l m:List α},gx p l m=true->l=m:=by
 intro l
 induction l with
 | nil => intro m h; cases m with
   | nil=>rfl
   | cons=>simp[gx]at h
 | cons x l ih => intro m h; cases m with
   | nil=>simp[gx]at h
   | cons y m =>
     simp only[gx,aF]at h;rw[hp _ _ h.1,ih h.2]
def Q9(a b:cI)(h:hU a b=true): a=b:=by
 obtain⟨a1,a2,a3⟩:=a;obtain⟨b1,b2,b3⟩:=b;simp only[hU,aF,beq_iff_eq,decide_eq_true_eq]at h;obtain⟨⟨rfl,rfl⟩,h3⟩:=h;rw[GZ (fun x y h=>by simpa using h) h3]
def Yc(a b:dO)(h:jT a b=true): a=b:=by
 obtain⟨a1,a2⟩:=a;obtain⟨b1,b2⟩:=b;simp only[jT,aF]at h;rw[GZ (fun x y h=>by simpa using h) h.1,GZ (fun x y h=>by simpa using h) h.2]
def aaQ{a b:Table}(h:iX a b=true): a=b:=by
 obtain⟨a1,a2,a3,a4,a5,a6⟩:=a;obtain⟨b1,b2,b3,b4,b5,b6⟩:=b;simp only[iX,aF,beq_iff_eq,decide_eq_true_eq]at h;obtain⟨⟨⟨⟨⟨rfl,rfl⟩,rfl⟩,h4⟩,h5⟩,h6⟩:=h;rw[GZ Q9 h4,GZ Q9 h5,GZ Yc h6]
def aaR{c:Nat}: pE (uQ c)=c:=by
 unfold uQ pE;split<;>split<;>omega
def aeU(r:aJ): ∀(s:aJ) (i d:Nat) (n:Int),i<=9->pY i d s=(n,r,0)-> ∃ c,s=qN (9-i) c++r/\n=uQ (d+c*128 ^ i)/\(0<i->0<c):=by
 intro s
 induction s with
 | nil=>intro i d n _ h;simp[pY]at h
 | cons b s ih =>
   intro i d n hi h;have hb:b.toNat<256:=b.toNat_lt;rw[pY]at h;split at h
   ·simp at h
   ·rename_i h1;split at h
    ·rename_i h2;obtain⟨e1,e2,_⟩:=h;refine⟨b.toNat,?_,by rw[fZ h2],fun h=>by omega⟩;cases hk:9-i with
     | zero=>simp[qN]
     | succ k=>rw[qN,if_pos h2];simp
    ·rename_i h2;have h9:i≠9:=fun e=>by subst e;omega
     obtain⟨c,e1,e2,e3⟩:=ih (i+1) _ n (by omega) h;have hc:=e3 (by omega);refine⟨b.toNat % 128+128*c,?_,?_,fun _=>by omega⟩
     ·obtain⟨k,hk⟩:∃ k,9-i=k+1:=⟨9-(i+1),by omega⟩;rw[hk,qN,if_neg (by omega),e1];have e4:9-(i+1)=k:=by omega
      have e5:(b.toNat % 128+128*c) / 128=c:=by omega
      have e6:128+(b.toNat % 128+128*c) % 128=b.toNat:=by omega
      rw[e4,e5,e6];simp
     ·rw[e2,fL,dK,ep];have:c*(128 ^ i*128)=128*c*128 ^ i:=by rw[eP (128 ^ i) 128,<-Nat.mul_assoc,eP c 128]
      rw[this]
def TD{s r:aJ}{n:Int}(h:takeN s=(n,r,0)): s=cG n++r:=by
 obtain⟨c,e1,e2,_⟩:=aeU r s 0 0 n (by omega) h;unfold cG;simp only[dX,Nat.pow_zero,Nat.mul_one]at e2;rw[e2,aaR];exact e1
def ab8{s t r:aJ}{m:Int}(h:cj s m=(t,r,0)): s=bC t++r:=by
 unfold cj at h;split at h
 ·rename_i h1;injection h with _ h2;injection h2 with _ h2;exact absurd h2 h1
 split at h
 ·injection h with _ h2;injection h2 with _ h2;cases h2
 split at h
 ·injection h with _ h2;injection h2 with _ h2;cases h2
 split at h
 ·injection h with _ h2;injection h2 with _ h2;cases h2
 ·rename_i h1 h2 h3 h4;injection h with e1 e2;injection e2 with e2 _;have e0:(takeN s).2.2=0:=by omega
  have e:=TD (s:=s) (r:=(takeN s).2.1) (n:=(takeN s).1) (by rw[<-e0]);unfold bC;have el:(t.length:Int)=(takeN s).1:=by rw[<-e1,List.length_take];omega
  rw[el,<-e1,<-e2,List.append_assoc,List.take_append_drop];exact e
def adJ: ∀(k c:Nat),(qN k c).length<=k+1:=by
 intro k
 induction k with
 | zero=>intro c;simp[qN]
 | succ k ih => intro c; rw [qN]; split
                ·simp
                ·have:=ih (c / 128);simp;omega
def cM(n:Int): (cG n).length<=10:=adJ 9 _
def p_(l:List aJ): aJ:=cG l.length++l.flatMap bC
def oS(m:Int): Nat->List aJ->aJ->List aJ × aJ × Int
 | 0,out,s=>(out,s,0)
 | k+1,out,s=>if(cj s m).2.2≠0 then([],[],(cj s m).2.2)else oS m k (out++[(cj s m).1]) (cj s m).2.1
def dV(s:aJ)(most m:Int): List aJ × aJ × Int :=
 if(takeN s).2.2≠0 then([],[],(takeN s).2.2)else if(takeN s).1<0 then([],[],4)else if(takeN s).1>most then([],[],5)
 else oS m (takeN s).1.toNat [] (takeN s).2.1
def WX{m:Int}(r:aJ): ∀(l out:List aJ),(∀ t ∈ l,(t.length:Int)<=m/\t.length<=2 ^ 60)->oS m l.length out (l.flatMap bC++r)=(out++l,r,0):=by
 intro l
 induction l with
 | nil=>intro out _;simp[oS]
 | cons v l ih =>
   intro out h;have hv:=h v (by simp);rw[List.length_cons,oS,de,List.append_assoc,ur hv.1 (by omega)];dsimp only;rw[if_neg (by omega),ih _ (fun w hw=>h w (by simp[hw]))];simp
def WY{l:List aJ}{most m:Int}(h:∀ t ∈ l,(t.length:Int)<=m/\t.length<=2 ^ 60)(hl:l.length<=most)(pX:l.length<=2 ^ 60): dV (p_ l) most m=(l,[],0):=by
 have:=WX [] l [] h;unfold dV p_;rw[jZ ⟨by omega,by omega⟩];dsimp only;rw[if_neg (by omega),if_neg (by omega),if_neg (by omega),er,<-List.append_nil (l.flatMap bC),this];simp
def aaS{m:Int}{ts:List aJ}{r:aJ}: ∀(k:Nat) (out:List aJ) (s:aJ),oS m k out s=(ts,r,0)-> ∃ l,ts=out++l/\l.length=k/\s=l.flatMap bC++r/\ ∀ t ∈ l,(t.length:Int)<=m:=by
 intro k
 induction k with
 | zero=>intro out s h;simp[oS]at h;exact⟨[],by simp[h],rfl,by simp[h],by simp⟩
 | succ k ih =>
   intro out s h;rw[oS]at h;split at h
   ·rename_i h1;injection h with _ h2;injection h2 with _ h2;exact absurd h2 h1
   ·rename_i h1;have h0:(cj s m).2.2=0:=by omega
    obtain⟨l,e1,e2,e3,e4⟩:=ih _ _ h;have e:=ab8 (s:=s) (t:=(cj s m).1) (r:=(cj s m).2.1) (m:=m) (by rw[<-h0]);refine⟨(cj s m).1::l,by simp[e1],by simp[e2],by rw[de,List.append_assoc,<-e3];exact e,fun t ht=>?_⟩;rcases List.mem_cons.1 ht with rfl|ht
    ·exact((jh s m).2.2.1 h0).2
    ·exact e4 t ht
def Q_{s:aJ}{most m:Int}{ts:List aJ}(h:dV s most m=(ts,[],0)): s=p_ ts/\ts.length<=most/\ ∀ t ∈ ts,(t.length:Int)<=m:=by
 unfold dV at h;split at h
 ·rename_i h1;injection h with _ h2;injection h2 with _ h2;exact absurd h2 h1
 split at h
 ·injection h with _ h2;injection h2 with _ h2;cases h2
 split at h
 ·injection h with _ h2;injection h2 with _ h2;cases h2
 ·obtain⟨l,e1,e2,e3,e4⟩:=aaS _ _ _ h;rw[List.nil_append]at e1;subst e1;have e0:(takeN s).2.2=0:=by omega
  have e:=TD (s:=s) (r:=(takeN s).2.1) (n:=(takeN s).1) (by rw[<-e0]);have el:(ts.length:Int)=(takeN s).1:=by omega
  rw[List.append_nil]at e3;exact⟨by unfold p_;rw[el,<-e3];exact e,by omega,e4⟩
structure eH where
 kind:Int
 table:Table
 name:aJ
 di:Int
 row:List eg
 kN:Int
 lU:Int
deriving Inhabited
def ik: eH:=⟨0,bM,[],0,[],0,0⟩
def j3(a b:eH): Bool:=decide (a.kind=b.kind) && iX a.table b.table && a.name==b.name && decide (a.di=b.di) && gx (fun x y=>x==y) a.row b.row && decide (a.kN=b.kN) && decide (a.lU=b.lU)
def ym(c:eH): eH:=⟨c.kind,if c.kind=1 then c.table else bM,if c.kind=2\/c.kind=3 then c.name else [],if c.kind=2\/c.kind=3 then c.di else 0,if c.kind=2 then c.row else [],if c.kind=5\/c.kind=6 then c.kN else 0,if c.kind=5 then c.lU else 0⟩
def tP(c:eH): Bool:=(decide (c.kind=1) || iX c.table bM) && (decide (c.kind=2\/c.kind=3) ||(c.name==[] && decide (c.di=0))) && (decide (c.kind=2) || decide (c.row.length=0)) && (decide (c.kind=5\/c.kind=6) || decide (c.kN=0)) && (decide (c.kind=5) || decide (c.lU=0))
def mK(n:Int): Bool:=decide (0<=n/\n<=1125899906842624)
def cY(c:eH): Int :=
 if c.kind=1/\(ez c.table).2≠0 then(ez c.table).2
 else if 1<=c.kind/\c.kind<=9/\tP c=true/\((c.kind=2\/c.kind=3)->gE c.name=true/\0<=c.di/\c.di<=2147483648)/\mK c.kN=true/\mK c.lU=true/\c.row.length<=6/\c.row.all bL=true then 0 else 2
def gJ(c:eH): aJ:=cG c.kind++(if c.kind=1 then bC (ez c.table).1 else if c.kind=2 then bC c.name++cG c.di++mY c.row else if c.kind=3 then bC c.name++cG c.di
 else if c.kind=5 then cG c.kN++cG c.lU else if c.kind=6 then cG c.kN else [])
def dW(c:eH): aJ × Int:=if cY c≠0 then([],cY c)else (gJ c,0)
def jM(s:aJ): eH :=
 let n:=(takeN s).1
 let r:=(takeN s).2.1
 if n=1 then { ik with kind:=n,table:=(fX false (cj r 4000).1).1 }
 else if n=2 then { ik with kind:=n,name:=(cj r 4000).1,di:=(takeN (cj r 4000).2.1).1,row:=(ig (takeN (cj r 4000).2.1).2.1 6).1 }
 else if n=3 then { ik with kind:=n,name:=(cj r 4000).1,di:=(takeN (cj r 4000).2.1).1 }
 else if n=5 then { ik with kind:=n,kN:=(takeN r).1,lU:=(takeN (takeN r).2.1).1 }
 else if n=6 then { ik with kind:=n,kN:=(takeN r).1 }
 else { ik with kind:=n }
def parseCmd(s:aJ): eH × Int:=if dW (jM s)=(s,0)then (jM s,0)else (ik,4)
def jo(c:eH): Prop:=jG c.kind/\mh c.table/\c.name.length<=2 ^ 30/\jG c.di/\yl c.row/\jG c.kN/\jG c.lU
def Yd(c:eH): j3 c (ym c)=tP c:=by
 obtain⟨k,t,n,v,r,f,m⟩:=c;have h1:=LS t;have h2:gx (fun x y:eg=>x==y) r r=true:=qM r (fun x _=>by simp);have h3:gx (fun x y:eg=>x==y) r []=decide (r.length=0):=by cases r<;>simp[gx]
 unfold j3 ym tP;dsimp only;by_cases k1:k=1
 ·subst k1;simp[h1,h3,Bool.and_assoc]
 by_cases k2:k=2
 ·subst k2;simp[h2,Bool.and_assoc]
 by_cases k3:k=3
 ·subst k3;simp[h3,Bool.and_assoc]
 by_cases k5:k=5
 ·subst k5;simp[h3,Bool.and_assoc]
 by_cases k6:k=6
 ·subst k6;simp[h3,Bool.and_assoc]
 simp[k1,k2,k3,k5,k6,h3,Bool.and_assoc]
def rT{c:eH}(h:cY c=0): (c.kind=1->(ez c.table).2=0)/\(1<=c.kind/\c.kind<=9/\tP c=true/\((c.kind=2\/c.kind=3)->gE c.name=true/\0<=c.di/\c.di<=2147483648)/\mK c.kN=true/\mK c.lU=true/\c.row.length<=6/\c.row.all bL=true):=by
 unfold cY at h;split at h
 ·rename_i h1;exact absurd h h1.2
 ·rename_i h1;split at h
  ·rename_i h2;exact⟨fun hk=>Classical.not_not.1 fun hn=>h1 ⟨hk,hn⟩,h2⟩
  ·cases h
def Ir{c:eH}(h:tP c=true): (c.kind=1\/c.table=bM)/\((c.kind=2\/c.kind=3)\/c.name=[]/\c.di=0)/\(c.kind=2\/c.row=[])/\((c.kind=5\/c.kind=6)\/c.kN=0)/\(c.kind=5\/c.lU=0):=by
 simp only[tP,aF,dB,decide_eq_true_eq,beq_iff_eq,dS]at h;obtain⟨⟨⟨⟨h1,h2⟩,h3⟩,h4⟩,h5⟩:=h;exact⟨h1.imp id aaQ,h2,h3,h4,h5⟩
def uu{n:Int}(h:mK n=true): jG n:=by
 simp only[mK,decide_eq_true_eq]at h;exact⟨by omega,by omega⟩
def Ce(t:Table): (ez t).1.length<=1400:=by
 unfold ez;repeat' split
 all_goals first|simp;done|(dsimp only;omega)
def adK{c:eH}(ok:jo c)(h:cY c=0): jM (gJ c)=c:=by
 obtain⟨h1,h2,h3,h4,h5,h6,h7,h8,h9⟩:=rT h;obtain⟨p1,p2,p3,p4,p5⟩:=Ir h4;have f6:=uu h6;have f7:=uu h7;have hT:∀ x,takeN (cG c.kind++x)=(c.kind,x,0):=fun x=>jZ ⟨by omega,by omega⟩ x;have hL:=Ce c.table;obtain⟨k,t,n,v,r,f,m⟩:=c;obtain⟨_,ot,_,ov,orw,_,_⟩:=ok;dsimp only at *;have hr:∀ w ∈ r,bL w=true/\jG w.n:=fun w hw=>⟨bx.1 h9 w hw,(orw.2 w hw).1⟩;unfold jM gJ;dsimp only;rw[hT];dsimp only;by_cases k1:k=1
 ·obtain⟨⟨rfl,rfl⟩,rfl,rfl,rfl⟩:(n=[]/\v=0)/\r=[]/\f=0/\m=0:=⟨p2.resolve_left (by omega),p3.resolve_left (by omega),p4.resolve_left (by omega),p5.resolve_left (by omega)⟩;subst k1;have hb:ez t=((ez t).1,0):=by rw[<-h1 rfl]
  simp only[if_true];rw[<-List.append_nil (bC _),ur (by omega) (by omega)];dsimp only;rw[O7 ot hb];rfl
 rw[if_neg k1,if_neg k1];obtain rfl:=p1.resolve_left k1;by_cases k2:k=2
 ·obtain⟨rfl,rfl⟩:f=0/\m=0:=⟨p4.resolve_left (by omega),p5.resolve_left (by omega)⟩;have hn:=tO (h5 (.inl k2)).1;rw[if_pos k2,if_pos k2,List.append_assoc,ur (by omega) (by omega)];dsimp only;rw[jZ ov];dsimp only;rw[<-List.append_nil (mY r),TC hr (by omega) (by omega)];rfl
 rw[if_neg k2,if_neg k2];obtain rfl:=p3.resolve_left k2;by_cases k3:k=3
 ·obtain⟨rfl,rfl⟩:f=0/\m=0:=⟨p4.resolve_left (by omega),p5.resolve_left (by omega)⟩;have hn:=tO (h5 (.inr k3)).1;rw[if_pos k3,if_pos k3,ur (by omega) (by omega)];dsimp only;rw[<-List.append_nil (cG v),jZ ov];rfl
 rw[if_neg k3,if_neg k3];obtain⟨rfl,rfl⟩:=p2.resolve_left (by omega);by_cases k5:k=5
 ·rw[if_pos k5,if_pos k5,jZ f6];dsimp only;rw[<-List.append_nil (cG m),jZ f7];rfl
 rw[if_neg k5,if_neg k5];obtain rfl:=p5.resolve_left k5;by_cases k6:k=6
 ·rw[if_pos k6,if_pos k6,<-List.append_nil (cG f),jZ f6];rfl
 rw[if_neg k6];obtain rfl:=p4.resolve_left (by omega);rfl
def rU: mh bM:=⟨by decide,⟨by decide,fun c hc=>(by cases hc)⟩,⟨by decide,fun c hc=>(by cases hc)⟩,by decide,fun c hc=>(by cases hc)⟩
def FL: jG 0:=⟨by decide,by decide⟩
def Sy: jo ik:=⟨FL,rU,by decide,FL,⟨by decide,fun c hc=>(by cases hc)⟩,FL,FL⟩
def adL(z:Bool)(s:aJ): mh (fX z s).1:=by
 by_cases h:(fX z s).2=0
 ·exact(adI z h).2.2
 ·rcases ab7 z h with e|⟨_,e⟩<;>(rw[e];exact rU)
def Iu{v:eg}(h:bL v=true): v.s.length<=40:=by
 rcases vz h with⟨_,h⟩|⟨_,h⟩|⟨_,_,h⟩|⟨_,h⟩
 ·rw[h];decide
 ·rw[h];decide
 ·exact h
 ·rw[h];decide
def Sz{s:aJ}(hs:s.length<=2 ^ 20): jo (jM s):=by
 have h1:=j0 s;have h2:=dZ s;have h3:=jh (takeN s).2.1 4000;have hr:=O3 (takeN (cj (takeN s).2.1 4000).2.1).2.1 6;have r0:=FL;have n0:([]:aJ).length<=2 ^ 30:=by decide
 have v0:yl []:=⟨by decide,fun c hc=>(by cases hc)⟩;have hn:(cj (takeN s).2.1 4000).1.length<=2 ^ 30:=by omega
 have hv:yl (ig (takeN (cj (takeN s).2.1 4000).2.1).2.1 6).1:=⟨by have:=hr.2.2.2.2 (by omega);omega,fun v hv=>⟨(hr.2.1 v hv).2,by have:=Iu (hr.2.1 v hv).1;omega⟩⟩;unfold jM;dsimp only;split
 ·exact⟨h1,adL _ _,n0,r0,v0,r0,r0⟩
 split
 ·exact⟨h1,rU,hn,j0 _,hv,r0,r0⟩
 split
 ·exact⟨h1,rU,hn,j0 _,v0,r0,r0⟩
 split
 ·exact⟨h1,rU,n0,r0,v0,j0 _,j0 _⟩
 split
 ·exact⟨h1,rU,n0,r0,v0,j0 _,r0⟩
 ·exact⟨h1,rU,n0,r0,v0,r0,r0⟩
def FM{c:eH}(h:(dW c).2=0): cY c=0/\dW c=(gJ c,0):=by
 unfold dW at *;split at h
 ·rename_i h1;exact absurd h h1
 ·rename_i h1;exact⟨by omega,by rw[if_neg h1]⟩
def LW{c:eH}(ok:jo c)(h:(dW c).2=0): parseCmd (dW c).1=(c,0):=by
 obtain⟨h1,h2⟩:=FM h;rw[h2];unfold parseCmd;dsimp only;rw[adK ok h1,if_pos h2]
def G0(s:aJ): (parseCmd s=(ik,4))\/(parseCmd s).2=0/\dW (parseCmd s).1=(s,0):=by
 unfold parseCmd;split
 ·rename_i h;exact .inr ⟨rfl,h⟩
 ·exact .inl rfl
def ab9{c:eH}(h:cY c=0)(h2:c.kind≠2)(h3:c.kind≠3){n:Int}(hn:n≠0): cY { c with di:=n }=2:=by
 have:=rT h;unfold cY;dsimp only;rw[if_neg (fun e=>e.2 (this.1 e.1)),if_neg];rintro⟨_,_,hp,_⟩;rcases(Ir hp).2.1 with h|h
 ·dsimp only at h;omega
 ·exact hn h.2
def acd{c:eH}(h:cY c=0)(h5:c.kind≠5){n:Int}(hn:n≠0): cY { c with lU:=n }=2:=by
 have:=rT h;unfold cY;dsimp only;rw[if_neg (fun e=>e.2 (this.1 e.1)),if_neg];rintro⟨_,_,hp,_⟩;rcases(Ir hp).2.2.2.2 with h|h
 ·exact h5 h
 ·exact hn h
def aaT(c:eH){n:Int}(hn:n<1\/9<n): cY { c with kind:=n }=2:=by
 unfold cY;dsimp only;rw[if_neg (by rintro⟨e,_⟩;omega),if_neg];rintro⟨h1,h2,_⟩;omega
def ji(l:List eH): aJ × Int :=
 if 64<l.length then([],24)else match l.find? (fun c=>cY c != 0)with
 | some c=>([],cY c)
 | none=>(p_ (l.map gJ),0)
def iv(s:aJ): List eH × Int :=
 if(dV s 64 4000).2.2≠0\/(dV s 64 4000).2.1≠[]then ([],4)
 else if(dV s 64 4000).1.all (fun t=>decide ((parseCmd t).2=0))then ((dV s 64 4000).1.map fun t=>(parseCmd t).1,0)else ([],4)
def adM{l:List eg}(h:∀ v ∈ l,(fW v).length<=60): (l.flatMap fW).length<=60*l.length:=by
 induction l with
 | nil=>simp
 | cons v l ih =>
   have h1:=h v (by simp);have h2:=ih (fun w hw=>h w (by simp[hw]));rw[de,List.length_append,List.length_cons];omega
def DX{c:eH}(h:cY c=0): (gJ c).length<=4000:=by
 obtain⟨h1,h2,h3,h4,h5,h6,h7,h8,h9⟩:=rT h;have n1:=cM c.kind;have n2:=cM c.di;have n3:=cM c.kN;have n4:=cM c.lU;have hL:=Ce c.table;have tx:∀ s:aJ,(bC s).length<=10+s.length:=fun s=>by unfold bC;have:=cM s.length;rw[List.length_append];omega
 have t1:=tx (ez c.table).1;have t2:=tx c.name;unfold gJ;split
 ·rw[List.length_append];omega
 split
 ·rename_i k2;have hn:=tO (h5 (.inl k2)).1
  have hv:(c.row.flatMap fW).length<=60*c.row.length:=adM fun v hv=>by
   have:=Iu (bx.1 h9 v hv);have a1:=cM v.kind;have a2:=cM v.n;have a3:=tx v.s;unfold fW;rw[List.length_append];split
   ·omega
   split
   ·omega
   ·simp;omega
  have n5:=cM c.row.length;have:(mY c.row).length<=10+60*c.row.length:=by unfold mY;rw[List.length_append];omega
  simp only[List.length_append];omega
 split
 ·rename_i k3;have hn:=tO (h5 (.inr k3)).1;simp only[List.length_append];omega
 split
 ·simp only[List.length_append];omega
 split
 ·simp only[List.length_append];omega
 ·simp;omega
def Ra{l:List eH}(h:(ji l).2=0): l.length<=64/\(∀ c ∈ l,cY c=0)/\ji l=(p_ (l.map gJ),0):=by
 unfold ji at *;split at h
 ·cases h
 ·rename_i h1;rw[if_neg h1];split at h
  ·rename_i c hc;have:=eX hc;exact absurd h (by simpa using this)
  ·rename_i hn;exact⟨by omega,fun c hc=>by have:=dG.1 hn c hc;simpa using this,rfl⟩
def O8{l:List eH}(hl:l.length<=64)(h:∀ c ∈ l,cY c=0): ji l=(p_ (l.map gJ),0):=by
 unfold ji;rw[if_neg (by omega)];have:l.find? (fun c=>cY c != 0)=none:=dG.2 fun c hc=>by simp[h c hc]
 rw[this]
def Ye{l:List eH}(ok:∀ c ∈ l,jo c)(h:(ji l).2=0): iv (ji l).1=(l,0):=by
 obtain⟨h1,h2,h3⟩:=Ra h
 have hp:∀ c ∈ l,parseCmd (gJ c)=(c,0):=fun c hc=>by
  have hb:dW c=(gJ c,0):=by unfold dW;rw[if_neg (by rw[h2 c hc];simp)]
  have:=LW (ok c hc) (by rw[hb]);rwa[hb]at this
 rw[h3];unfold iv;dsimp only;rw[WY (l:=l.map gJ) (fun t ht=>by obtain⟨c,hc,rfl⟩:=ek.1 ht;have:=DX (h2 c hc);omega) (by rw[cE];omega) (by rw[cE];omega)];dsimp only;rw[if_neg (by simp),if_pos]
 ·congr 1
  rw[List.map_map]
  conv=>rhs;rw[<-List.map_id l]
  exact List.map_congr_left fun c hc=>by simp[hp c hc]
 ·rw[bx];intro t ht;obtain⟨c,hc,rfl⟩:=ek.1 ht;simp[hp c hc]
def Yf{s:aJ}(h:(iv s).2=0): ji (iv s).1=(s,0):=by
 unfold iv at *;split at h
 ·cases h
 ·rename_i h1;rw[if_neg h1];split at h
  ·rename_i h2;rw[if_pos h2];dsimp only;have e0:(dV s 64 4000).2.2=0:=Classical.not_not.1 (not_or.1 h1).1;have e1:(dV s 64 4000).2.1=[]:=Classical.not_not.1 (not_or.1 h1).2;obtain⟨i1,i2,i3⟩:=Q_ (s:=s) (most:=64) (m:=4000) (ts:=(dV s 64 4000).1) (by rw[<-e0,<-e1]);rw[bx]at h2
   have hc:∀ t ∈ (dV s 64 4000).1,cY (parseCmd t).1=0/\gJ (parseCmd t).1=t:=fun t ht=>by
    have h3:=h2 t ht;rw[decide_eq_true_eq]at h3;rcases G0 t with e|⟨_,e⟩
    ·rw[e]at h3;cases h3
    ·obtain⟨b1,b2⟩:=FM (c:=(parseCmd t).1) (by rw[e]);rw[b2]at e;exact⟨b1,(Prod.mk.inj e).1⟩
   rw[O8 (by rw[cE];omega) (fun c hm=>by obtain⟨t,ht,rfl⟩:=ek.1 hm;exact(hc t ht).1)]
   have:((dV s 64 4000).1.map fun t=>(parseCmd t).1).map gJ=(dV s 64 4000).1:=by
    rw[List.map_map]
    conv=>rhs;rw[<-List.map_id (dV s 64 4000).1]
    exact List.map_congr_left fun t ht=>(hc t ht).2
   rw[this,<-i1]
  ·cases h
end Go.Proofs.YtmbgnaoilncbnaaGreatDoor
