/- Part. -/
import Derived.Test.YtoldfccfpameeaaGreatDoorX09
set_option linter.all false
set_option maxHeartbeats 4000000
namespace Go.Proofs.YtoldfccfpameeaaGreatDoor
open Go.AM
set_option maxRecDepth 4000
def ua: aU:=[105,102,32]
def rG: aU:=[32,116,104,101,110,32]
def zx: aU:=[32,101,108,115,101,32]
def oA(w:Int × aU)(lvl:Int): aU:=if w.1<lvl then 40::(w.2++[41])else w.2
def uW(op:Int)(v:aX)(s:aU)(ws:List (Int × aU)): aU :=
 if op=1 then DN v else if op=2 then s
 else if op=3 then 45::oA (ws.getD 0 default) 6
 else if op=16 then ua++oA (ws.getD 0 default) 0++rG++oA (ws.getD 1 default) 0++zx++oA (ws.getD 2 default) 0
 else oA (ws.getD 0 default) (if(fB op).level=3 then 4 else(fB op).level)++[32]++(fB op).sign++[32]++oA (ws.getD 1 default) ((fB op).level+1)
mutual
def f_: Expr->aU
 | .mk op v s l=>uW op v s (xm l)
def xm: List Expr->List (Int × aU)
 | []=>[]
 | x::r=>(fT x.op,f_ x)::xm r
end
def lI(x:Expr)(lvl:Int): aU:=oA (fT x.op,f_ x) lvl
def adO(n:Int)(h0 : -9223372036854775808<=n)(h1:n<=9223372036854775807): (Lib.itoa n).length<=21:=by
 unfold Lib.itoa;split
 ·have:=Tc 19 n.natAbs ae;rw[aO];omega
 have:=Tc 19 n.toNat ae;omega
def aa3(v:aX)(h0 : -9223372036854775808<=v.n)(h1:v.n<=9223372036854775807)(hr:cg v=true): (DN v).length<=82:=by
 unfold DN;split
 ·have:=adO v.n h0 h1;omega
 split
 ·rename_i h1 h2;unfold cg at hr;rw[aj ae,aj ae,au h2]at hr;simp only[mw,aD,aM]at hr;have:=Ps v.s;simp only[zw,aO,aC,bt];omega
 split
 ·split<;>simp[AA,xk]
 simp[L4]
def Mb(w:Int × aU)(lvl:Int): (oA w lvl).length<=w.2.length+2:=by
 unfold oA;split<;>simp
def Td(op:Int): (fB op).sign.length<=3:=by
 unfold fB;cases h:lz.find? (fun b=>b.op==op)with
 | none=>simp
 | some b =>
   have:=iy h;simp only[lz,gj,fO,or_false]at this;rcases this with rfl|rfl|rfl|rfl|rfl|rfl|rfl|rfl|rfl|rfl|rfl|rfl<;>simp
def wL {op : Int} {v : aX} {s : aU} {l : List Expr} (h : ef (.mk op v s l) = true) :
    (op=1/\l=[]/\s=[]/\cg v=true/\(v.kind≠1\/0<=v.n))\/(op=2/\l=[]/\v=v0/\iZ s=true)\/(op=3/\v=v0/\s=[]/\ ∃ a,l=[a]/\ef a=true) \/
    (op=16/\v=v0/\s=[]/\ ∃ a b c,l=[a,b,c]/\ef a=true/\ef b=true/\ef c=true) \/
    (4<=op/\op<=15/\v=v0/\s=[]/\1<=(fB op).level/\(fB op).level<=5/\fT op=(fB op).level/\(fB op).op=op/\(fB op) ∈ lz/\ ∃ a b,l=[a,b]/\ef a=true/\ef b=true):=by
 simp only[ef,aD,aM]at h;obtain⟨h1,h2⟩:=h;by_cases o1:op=1
 ·left;rw[au o1]at h2;simp only[aD,aM,cN]at h2;have:kg op=0:=by unfold kg;rw[if_pos (.inl o1)]
  exact⟨o1,dA.1 ae,h2.1.1,h2.1.2,h2.2⟩
 rw[aj o1]at h2;by_cases o2:op=2
 ·right;left;rw[au o2]at h2;simp only[aD,aM]at h2;have:kg op=0:=by unfold kg;rw[if_pos (.inr o2)]
  exact⟨o2,dA.1 ae,h2.1,h2.2⟩
 rw[aj o2]at h2;simp only[aD,aM]at h2;obtain⟨⟨h3,h4⟩,h5⟩:=h2;by_cases o3:op=3
 ·right;right;left;have:kg op=1:=by unfold kg;rw[if_neg ae,if_pos o3]
  match l,h1,h5 with
  | [a],_,h5=>simp only[sZ,iQ]at h5;exact⟨o3,h3,h4,a,rfl,h5⟩
  | [],h1,_=>simp at h1;omega
  | _::_::_,h1,_=>simp at h1;omega
 by_cases o4:op=16
 ·right;right;right;left;have:kg op=3:=by unfold kg;rw[if_neg ae,if_neg o3,if_pos o4]
  match l,h1,h5 with
  | [a,b,c],_,h5=>simp only[sZ,iQ,aD]at h5;exact⟨o4,h3,h4,a,b,c,rfl,h5.1,h5.2.1,h5.2.2⟩
  | [],h1,_=>simp at h1;omega
  | [_],h1,_=>simp at h1;omega
  | [_,_],h1,_=>simp at h1;omega
  | _::_::_::_::_,h1,_=>simp at h1;omega
 right;right;right;right;have hc:kg op=if 0<(fB op).level then 2 else -1:=by unfold kg;rw[if_neg ae,if_neg o3,if_neg o4]
 have hlv:0<(fB op).level:=by
  by_cases h:0<(fB op).level
  ·exact h
  rw[aj h]at hc;omega
 rw[au hlv]at hc;have YJ:fT op=(fB op).level:=by unfold fT;rw[if_neg o4,if_neg o3,if_neg ae]
 have hf:(fB op).op=op/\fB op ∈ lz:=by
  unfold fB at hlv |-;cases hq:lz.find? (fun b=>b.op==op)with
  | none=>rw[hq]at hlv;simp at hlv
  | some b =>
    have h1:=fJ hq;exact⟨by simpa using h1,iy hq⟩
 have hb:4<=op/\op<=15/\(fB op).level<=5:=by
  obtain⟨q1,q2⟩:=hf;generalize fB op=b at q1 q2;simp only[lz,gj,fO,or_false]at q2;rcases q2 with rfl|rfl|rfl|rfl|rfl|rfl|rfl|rfl|rfl|rfl|rfl|rfl<;>(dsimp only at q1 |-;omega)
 match l,h1,h5 with
 | [a,b],_,h5=>simp only[sZ,iQ,aD]at h5;exact⟨hb.1,hb.2.1,h3,h4,ae,hb.2.2,YJ,hf.1,hf.2,a,b,rfl,h5.1,h5.2⟩
 | [],h1,_=>simp at h1;omega
 | [_],h1,_=>simp at h1;omega
 | _::_::_::_,h1,_=>simp at h1;omega
def EJ{x:Expr}(h:ef x=true): 0<=fT x.op:=by
 obtain⟨op,v,s,l⟩:=x;rcases wL h with⟨rfl,_⟩|⟨rfl,_⟩|⟨rfl,_⟩|⟨rfl,_⟩|⟨_,_,_,_,h1,_,h2,_⟩
 ·show 0<=fT 1;decide
 ·show 0<=fT 2;decide
 ·show 0<=fT 3;decide
 ·show 0<=fT 16;decide
 show 0<=fT op;omega
def J_{x:Expr}{lv:Int}(h:¬ fT x.op<lv): lI x lv=f_ x:=by unfold lI oA;exact if_neg h
def Te{x:Expr}{lv:Int}(h:fT x.op<lv): lI x lv=40::(f_ x++[41]):=by unfold lI oA;exact if_pos h
def aa4{s:aU}(h:iZ s=true): s.length<=16:=by
 simp only[iZ,aD,aM]at h;exact h.1.2
def YK(x:Expr): ef x=true->jj x->(f_ x).length<=110*gV x:=by
 induction x using Expr.ind with
 | h op v s l ih =>
   intro hr hx;simp only[jj]at hx;obtain⟨_,_,hv1,hv2,hl⟩:=hx
   have key:∀ y ∈ l,ef y=true-> ∀ lvl,(oA (fT y.op,f_ y) lvl).length<=110*gV y+2:=fun y hy hry lvl=>by
    have:=ih y hy hry (Cm hl hy);have:=Mb (fT y.op,f_ y) lvl;dsimp only at this;omega
   have hsg:=Td op;rcases wL hr with⟨rfl,rfl,rfl,h1,_⟩|⟨rfl,rfl,rfl,h1⟩|⟨rfl,rfl,rfl,a,rfl,ha⟩|⟨rfl,rfl,rfl,a,b,c,rfl,ha,hb,hc⟩|⟨o1,o2,rfl,rfl,_,_,_,_,_,a,b,rfl,ha,hb⟩
   ·have:=aa3 v hv1 hv2 h1;simp only[f_,uW,if_true,gV];omega
   ·have:=aa4 h1;simp[f_,uW,gV];omega
   ·have:=key a aQ ha 6;simp[f_,xm,uW,gV,nF];omega
   ·have k1:=key a aQ ha 0;have k2:=key b aQ hb 0;have k3:=key c aQ hc 0;simp[f_,xm,uW,gV,nF,ua,rG,zx];omega
   have k1:=key a aQ ha (if(fB op).level=3 then 4 else(fB op).level);have k2:=key b aQ hb ((fB op).level+1)
   have:f_ (.mk op v0 [] [a,b])=oA (fT a.op,f_ a) (if(fB op).level=3 then 4 else(fB op).level)++[32]++(fB op).sign++[32]++oA (fT b.op,f_ b) ((fB op).level+1):=by
    simp only[f_,xm,uW];rw[aj ae,aj ae,aj ae,aj ae];rfl
   rw[this];simp only[aC,aO,bt,gV,nF];omega
def qM(x:Expr): Bool:=decide (200<(f_ x).length)
def AG(x:Expr): aU × Int:=if ef x=false then([],2)else if 12<mO x then([],12)else if qM x=true then([],5)else (f_ x,0)
def adP{x:Expr}(hr:ef x=true): lI x 0=f_ x:=by
 have:=EJ hr;exact J_ ae
abbrev TB: TypeId:=162
abbrev TU: TypeId:=5
def po(T:TypeId)(σ : ai)(l:Nat)(s:aU): Prop:= ∃ p v,σ[l]? = some (.bY (some T) [p,v])/\(p = .gO\/p = .ref l 0) /\
 ((s=[]/\v = .aV)\/(s≠[]/\ ∃ k,k≠l/\v = .own E1 k s.length 0 s.length/\σ[k]? = some (.dn (some TU) E1 (sY s))))
def kj(l:Nat)(σ σ':ai): Prop:=σ.length<=σ'.length/\ ∀ j o,σ[j]? = some o->j≠l->(∀ T xs,o≠ .dn (some T) E1 xs)->σ'[j]? = some o
def kj.refl(l:Nat)(σ : ai): kj l σ σ:=⟨bg _,fun _ _ h _ _=>h⟩
def j3{σ : ai}{l:Nat}{o:aY}(h : σ[l]? = some o): l < σ.length:=(aE.1 h).1
def adQ : ∃ fn, Tryz.prog.funcs[174]? = some fn ∧ (fn.name == "runtime.NumGoroutine") = false ∧ fn.body.isNone = true ∧ Extern.findNext fn = none ∧ Extern.find fn = some Extern.AbiNoEscape.same :=
 ⟨_,Tryz.func174,fc,fc,fc,fc⟩
def Gp(T:TypeId): Prop:=liesAt Tryz.prog Tryz.prog.depth T (2 / Tryz.prog.cellsOf T) 0 TB 1=true
def Cp: Gp TB:=by unfold Gp;kernel_rfl
def Builder_copyCheck {T : TypeId} (hT : Gp T) (σ : ai) (l : Nat) (p v : AV) (h : σ[l]? = some (.bY (some T) [p, v])) (hp : p = .gO \/ p = .ref l 0) :
    cE aH 132 [.ref l 0] σ fun o σ'=>o = .ret (.bU [])/\σ' = σ.set l (.bY (some T) [.ref l 0,v]):=by
 have sH : σ.set l (.bY (some T) [.ref l 0,v]) = σ\/p = .gO:=by
  rcases hp with rfl|rfl
  ·exact .inr rfl
  left;apply jy;intro k;by_cases e:k=l
  ·subst e;rw[bw (j3 h)];exact h.symm
  rw[aF (Ne.symm e)]
 refine vS.go ?_;unfold dP;intro Q aJ aK aL;rcases hp with rfl|rfl
 ·repeat' first|refine cz h ?_|refine aB ?_|refine akg h aQ ?_|refine agh adQ ?_|refine akh h hT ?_|refine aA ?_ ?_<;>intro hw<;>try omega|fail
  exact⟨by trivial,by trivial⟩
 rcases sH with sH|sH
 ·repeat' first|refine cz h ?_|refine aB ?_|refine aki h ?_|refine aA ?_ ?_<;>intro hw<;>try omega|fail
  exact⟨rfl,sH.symm⟩
 ·cases sH
def Builder_Len{T:TypeId}(σ : ai)(l:Nat)(s:aU)(h:po T σ l s): cE aH 90 [.ref l 0] σ fun o σ'=>o = .ret (I s.length)/\σ' = σ:=by
 obtain⟨p,v,h1,h2,h3⟩:=h;refine Bk.go ?_;unfold dP;intro Q aJ aK aL;rcases h3 with⟨rfl,rfl⟩|⟨h3,k,h4,rfl,h5⟩
 ·repeat' first|refine cz h1 ?_|refine aB ?_|refine aA ?_ ?_<;>intro hw<;>try omega|fail
  exact⟨rfl,trivial⟩
 repeat' first|refine cz h1 ?_|refine aB ?_|refine aA ?_ ?_<;>intro hw<;>try omega|fail
 exact⟨rfl,trivial⟩
def Builder_WriteString {T : TypeId} (hT : Gp T) (σ : ai) (l : Nat) (s t : aU) (h : po T σ l s) (hlen : s.length + t.length <= 2^38) :
    cE aH 89 [.ref l 0,.str t] σ fun o σ'=>o = .ret (.bU [I t.length,.jR])/\po T σ' l (s++t)/\kj l σ σ':=by
 obtain⟨p,v,h1,h2,h3⟩:=h;have hl:=j3 h1;refine uP.go ?_;unfold dP;intro Q aJ aK aL;have iL:=Builder_copyCheck hT σ l p v h1 h2;have s6:(σ.set l (.bY (some T) [.ref l 0,v]))[l]? = some (.bY (some T) [.ref l 0,v]):=by simp[hl]
 have beside:∀ (o:aY),kj l σ (σ.set l o):=fun o=>⟨aQ,fun j o' hj hne _=>by rw[aF (Ne.symm hne)];exact hj⟩;rcases h3 with⟨rfl,rfl⟩|⟨h3,k,h4,rfl,h5⟩
 ·cases t with
  | nil =>
    repeat' first|refine cz s6 ?_|refine aB ?_|with_reducible refine bP iL ?_|refine aA ?_ ?_<;>intro hw<;>try omega|fail
    rintro o s ⟨rfl,rfl⟩;repeat' first|simp (disch:=omega) only[go_sem,aJ,aK,aL,s6,ek]|refine aB ?_|refine aA ?_ ?_<;>intro hw<;>try omega|fail
    exact⟨rfl,⟨_,_,s6,.inr rfl,.inl ⟨rfl,rfl⟩⟩,beside _⟩
  | cons c t =>
    simp only[bt,aO]at hlen;repeat' first|refine cz s6 ?_|refine aB ?_|with_reducible refine bP iL ?_|refine aA ?_ ?_<;>intro hw<;>try omega|fail
    rintro o s ⟨rfl,rfl⟩
    have DO:∀ o,((σ.set l (.bY (some T) [.ref l 0,.aV]))++[o])[l]? = some (.bY (some T) [.ref l 0,.aV]):=fun o=>by
     rw[aI (by simpa using hl)];exact s6
    repeat' first|simp (disch:=omega) only[go_sem,aJ,aK,aL,s6,DO,ek]|refine aB ?_|refine aA ?_ ?_<;>intro hw<;>try omega|fail
    rw[iN _ _ (by simpa using hl),ek];refine⟨rfl,⟨.ref l 0,.own E1 σ.length (t.length+1) 0 (t.length+1),?_,.inr rfl,.inr ⟨aQ,σ.length,ae,aQ,?_⟩⟩,aQ,fun j o' hj hne _=>?_⟩
    ·rw[aI (by simpa using hl)];simp[hl]
    ·rw[bp aQ];simp
    rw[aI (by simpa using j3 hj),aF (Ne.symm hne)];exact hj
 have hk:=j3 h5;have IK:∀ o,(σ.set l o)[k]? = some (.dn (some TU) E1 (sY s)):=fun o=>by rw[aF (Ne.symm h4)];exact h5
 repeat' first|refine cz s6 ?_|refine aB ?_|with_reducible refine bP iL ?_|refine aA ?_ ?_<;>intro hw<;>try omega|fail
 rintro o s' ⟨rfl,rfl⟩
 have DO:∀ o,((σ.set l (.bY (some T) [.ref l 0,.own E1 k s.length 0 s.length])).set k o)[l]? = some (.bY (some T) [.ref l 0,.own E1 k s.length 0 s.length]):=fun o=>by
  rw[aF h4];exact s6
 repeat' first|simp (disch:=omega) only[go_sem,aJ,aK,aL,s6,DO,IK,ek]|refine aB ?_|refine aA ?_ ?_<;>intro hw<;>try omega|fail
 refine⟨rfl,⟨.ref l 0,.own E1 k (s.length+t.length) 0 (s.length+t.length),?_,.inr rfl,.inr ⟨by simp[h3],k,h4,aQ,?_⟩⟩,aQ,fun j o' hj hne zy=>?_⟩
 ·simp[hl]
 ·rw[aF (Ne.symm h4)];simp[hk]
 have FH:j≠k:=fun e=>by subst e;rw[h5]at hj;cases hj;exact zy _ _ rfl
 rw[aF (Ne.symm hne),aF (Ne.symm FH),aF (Ne.symm hne)];exact hj
def Builder_String{T:TypeId}(σ : ai)(l:Nat)(s:aU)(h:po T σ l s)(hs:s.length<=2^62): cE aH 91 [.ref l 0] σ fun o σ'=>o = .ret (.str s)/\kj l σ σ':=by
 obtain⟨p,v,h1,h2,h3⟩:=h;refine yq.go ?_;unfold dP;intro Q aJ aK aL;rcases h3 with⟨rfl,rfl⟩|⟨h3,k,h4,rfl,h5⟩
 ·repeat' first|refine cz h1 ?_|refine aB ?_|refine aA ?_ ?_<;>intro hw<;>try omega|fail
  exact⟨rfl,.refl _ _⟩
 have h0:0<s.length:=iR.2 h3;repeat' first|refine cz h1 ?_|refine aB ?_|refine akj h5 aQ h0 ?_|refine aid s h5 aQ rfl h3 hs rfl ?_|refine aA ?_ ?_<;>intro hw<;>try omega|fail
 refine⟨rfl,aQ,fun j o' hj hne zy=>?_⟩;have FH:j≠k:=fun e=>by subst e;rw[h5]at hj;cases hj;exact zy _ _ rfl
 rw[aF (Ne.symm FH)];exact hj
def po.push{T:TypeId}{σ : ai}{l:Nat}{s:aU}(h:po T σ l s)(ρ : ai): po T (σ++ ρ) l s:=by
 obtain⟨p,v,h1,h2,h3⟩:=h;refine⟨p,v,by rw[aI (j3 h1)];exact h1,h2,?_⟩;rcases h3 with h3|⟨h3,k,h4,h5,h6⟩
 ·exact .inl h3
 exact .inr ⟨h3,k,h4,h5,by rw[aI (j3 h6)];exact h6⟩
def po.lt{T:TypeId}{σ : ai}{l:Nat}{s:aU}(h:po T σ l s): l < σ.length:=by
 obtain⟨p,v,h1,_⟩:=h;exact j3 h1
def po.adR{T:TypeId}{σ : ai}{l q:Nat}{s u:aU}{i:Nat}(h:po T σ l s)(hq : σ[q]? = some (.jA u i))(o:aY): po T (σ.set q o) l s:=by
 obtain⟨p,v,h1,h2,h3⟩:=h;have n1:q≠l:=fun e=>by subst e;rw[hq]at h1;cases h1
 refine⟨p,v,by rw[aF n1];exact h1,h2,?_⟩;rcases h3 with h3|⟨h3,k,h4,h5,h6⟩
 ·exact .inl h3
 have n2:q≠k:=fun e=>by subst e;rw[hq]at h6;cases h6
 exact .inr ⟨h3,k,h4,h5,by rw[aF n2];exact h6⟩
def kj.trans{l:Nat}{σ1 σ2 σ3:ai}(h:kj l σ1 σ2)(k:kj l σ2 σ3): kj l σ1 σ3 :=
 ⟨cR h.1 k.1,fun j o h1 h2 h3=>k.2 j o (h.2 j o h1 h2 h3) h2 h3⟩
def kj.sk{l:Nat}{σ ρ σ2:ai}(h:kj l (σ++ ρ) σ2): kj l σ σ2 :=
 ⟨cR aQ h.1,fun j o h1 h2 h3=>h.2 j o (by rw[aI (j3 h1)];exact h1) h2 h3⟩
def aa5{n:Int}(h:0<=n)(h':n<=4294967295): dw .u32 n=n:=by
 show IntKind.wrap .u32 n=n;simp[IntKind.wrap,IntKind.bits,IntKind.signed];omega
def Builder_WriteByte {T : TypeId} (hT : Gp T) (σ : ai) (l : Nat) (s : aU) (c : UInt8) (k : Int) (hk : k = c.toNat) (h : po T σ l s) (hlen : s.length <= 2^38) :
    cE aH 170 [.ref l 0,.int .u8 k] σ fun o σ'=>o = .ret .jR/\po T σ' l (s++[c])/\kj l σ σ':=by
 subst hk;obtain⟨p,v,h1,h2,h3⟩:=h;have hl:=j3 h1;refine vQ.go ?_;unfold dP;intro Q aJ aK aL;have iL:=Builder_copyCheck hT σ l p v h1 h2;have s6:(σ.set l (.bY (some T) [.ref l 0,v]))[l]? = some (.bY (some T) [.ref l 0,v]):=by simp[hl]
 rcases h3 with⟨rfl,rfl⟩|⟨h3,k,h4,rfl,h5⟩
 ·repeat' first|refine cz s6 ?_|refine aB ?_|with_reducible refine bP iL ?_|refine aA ?_ ?_<;>intro hw<;>try omega|fail
  rintro o s' ⟨rfl,rfl⟩
  have DO:∀ o,((σ.set l (.bY (some T) [.ref l 0,.aV]))++[o])[l]? = some (.bY (some T) [.ref l 0,.aV]):=fun o=>by
   rw[aI (by simpa using hl)];exact s6
  repeat' first|simp (disch:=omega) only[go_sem,aJ,aK,aL,s6,DO,ek]|refine aB ?_|refine aA ?_ ?_<;>intro hw<;>try omega|fail
  rw[iN _ _ (by simpa using hl),ek];refine⟨rfl,⟨.ref l 0,.own E1 σ.length 1 0 1,?_,.inr rfl,.inr ⟨aQ,σ.length,ae,aQ,?_⟩⟩,aQ,fun j o' hj hne _=>?_⟩
  ·rw[aI (by simpa using hl)];simp[hl]
  ·rw[bp aQ];simp
  rw[aI (by simpa using j3 hj),aF (Ne.symm hne)];exact hj
 have hk:=j3 h5;have IK:∀ o,(σ.set l o)[k]? = some (.dn (some TU) E1 (sY s)):=fun o=>by rw[aF (Ne.symm h4)];exact h5
 repeat' first|refine cz s6 ?_|refine aB ?_|with_reducible refine bP iL ?_|refine aA ?_ ?_<;>intro hw<;>try omega|fail
 rintro o s' ⟨rfl,rfl⟩
 have DO:∀ o,((σ.set l (.bY (some T) [.ref l 0,.own E1 k s.length 0 s.length])).set k o)[l]? = some (.bY (some T) [.ref l 0,.own E1 k s.length 0 s.length]):=fun o=>by
  rw[aF h4];exact s6
 repeat' first|simp (disch:=omega) only[go_sem,aJ,aK,aL,s6,DO,IK,ek]|refine aB ?_|refine aA ?_ ?_<;>intro hw<;>try omega|fail
 refine⟨rfl,⟨.ref l 0,.own E1 k (s.length+1) 0 (s.length+1),?_,.inr rfl,.inr ⟨aQ,k,h4,aQ,?_⟩⟩,aQ,fun j o' hj hne zy=>?_⟩
 ·simp[hl]
 ·rw[aF (Ne.symm h4)];simp[hk]
 have FH:j≠k:=fun e=>by subst e;rw[h5]at hj;cases hj;exact zy _ _ rfl
 rw[aF (Ne.symm hne),aF (Ne.symm FH),aF (Ne.symm hne)];exact hj
def NU (σ : ai) (k : Nat) (s : aU) (c : UInt8) (hc : c.toNat < 128) (h : σ[k]? = some (.dn (some TU) E1 (sY s))) (hlen : s.length <= 2^38) :
    cE aH 269 [.own E1 k s.length 0 s.length,.int .i32 c.toNat] σ fun o σ'=>o = .ret (.own E1 k (s.length+1) 0 (s.length+1))/\σ' = σ.set k (.dn (some TU) E1 (sY (s++[c]))):=by
 refine xQ.go ?_;unfold dP;intro Q aJ aK aL;repeat' first|simp (disch:=omega) only[go_sem,aJ,aK,aL,h,aa5]|refine aB ?_|refine aA ?_ ?_<;>intro hw<;>try omega|fail
 all_goals first|(refine⟨rfl,?_⟩;simp;done)|exact bJ
def ya {T : TypeId} (hT : Gp T) (σ : ai) (l : Nat) (s : aU) (c : UInt8) (hc : c.toNat < 128) (h : po T σ l s) (hs : s ≠ []) (hlen : s.length <= 2^38) :
    cE aH 248 [.ref l 0,.int .i32 c.toNat] σ fun o σ'=>(∃ r,o = .ret r)/\po T σ' l (s++[c])/\kj l σ σ':=by
 obtain⟨p,v,h1,h2,h3⟩:=h;have hl:=j3 h1;refine vR.go ?_;unfold dP;intro Q aJ aK aL;have iL:=Builder_copyCheck hT σ l p v h1 h2;have s6:(σ.set l (.bY (some T) [.ref l 0,v]))[l]? = some (.bY (some T) [.ref l 0,v]):=by simp[hl]
 rcases h3 with⟨rfl,rfl⟩|⟨h3,k,h4,rfl,h5⟩
 ·exact absurd rfl hs
 have hk:=j3 h5;have IK:∀ o,(σ.set l o)[k]? = some (.dn (some TU) E1 (sY s)):=fun o=>by rw[aF (Ne.symm h4)];exact h5
 repeat' first|refine cz s6 ?_|refine aB ?_|with_reducible refine bP iL ?_|refine aA ?_ ?_<;>intro hw<;>try omega|fail
 rintro o s' ⟨rfl,rfl⟩;repeat' first|refine cz s6 ?_|refine aB ?_|with_reducible refine bP (NU _ k s c hc (IK _) hlen) ?_|refine aA ?_ ?_<;>intro hw<;>try omega|fail
 rintro o s' ⟨rfl,rfl⟩
 have DO:∀ o,((σ.set l (.bY (some T) [.ref l 0,.own E1 k s.length 0 s.length])).set k o)[l]? = some (.bY (some T) [.ref l 0,.own E1 k s.length 0 s.length]):=fun o=>by
  rw[aF h4];exact s6
 have WM:∀ o o',(((σ.set l (.bY (some T) [.ref l 0,.own E1 k s.length 0 s.length])).set k o).set l o')[l]? = some o':=fun o o'=>by
  rw[bw (by simpa using hl)]
 repeat' first|simp (disch:=omega) only[go_sem,aJ,aK,aL,s6,DO,WM,IK,ek]|refine aB ?_|refine aA ?_ ?_<;>intro hw<;>try omega|fail
 refine⟨⟨_,rfl⟩,⟨.ref l 0,.own E1 k (s.length+1) 0 (s.length+1),?_,.inr rfl,.inr ⟨aQ,k,h4,aQ,?_⟩⟩,aQ,fun j o' hj hne zy=>?_⟩
 ·simp[hl]
 ·rw[aF (Ne.symm h4)];simp[hk]
 have FH:j≠k:=fun e=>by subst e;rw[h5]at hj;cases hj;exact zy _ _ rfl
 rw[aF (Ne.symm hne),aF (Ne.symm FH),aF (Ne.symm hne)];exact hj
def Vg(s:aU)(ha:∀ i,i<s.length->(s.getD i 0).toNat<128)(hs:s.length<=2^36): aS aH 213 [.str s] (.str (zw s)):=by
 refine a_ NJ ?_;intro Q aJ aK aL;have hb0:po TB [.bY (some TB) [.gO,.aV]] 0 []:=⟨_,_,rfl,.inl rfl,.inl ⟨rfl,rfl⟩⟩;repeat' first|refine aB ?_|with_reducible refine bP (Builder_WriteByte Cp _ 0 _ 34 34 rfl hb0 aQ) ?_|refine aA ?_ ?_<;>intro hw<;>try omega|fail
 rintro o σ ⟨rfl,uo,_⟩;repeat' first|refine aB ?_|refine aA ?_ ?_<;>intro hw<;>try omega|fail
 generalize hq : σ.length=q at *;with_reducible refine bE [5,1,9,11] (fun x:Nat × ai=>[]) (fun x=>x.2) (fun x=>x.1<=s.length/\po TB x.2 0 (34::(s.take x.1).flatMap pn)/\x.2[q]? = some (.jA s x.1)) (fun x=>s.length-x.1) (0,σ++[.jA s 0]) ?_ ?_ ?_ ?_
 ·exact⟨ew _,by simpa using uo.push _,by rw[<-hq];simp⟩
 ·rfl
 ·exact at_
 clear uo hb0 hq;rintro⟨i,σ⟩ r ⟨h1,h2,h3⟩;dsimp only at h1 h2 h3;have hql:=Ps (s.take i);rw[dW]at hql;have Lt:(34::(s.take i).flatMap pn).length<=2^37+1:=by rw[aO];omega
 by_cases hi:i<s.length
 ·have hai:=ha i hi;have ht:=YI hi;have hb:=h2.adR h3 (.jA s (i+1));have hne:(34::(s.take i).flatMap pn:aU)≠[]:=aQ;have h3':(σ.set q (.jA s (i+1)))[q]? = some (.jA s (i+1)):=by rw[bw (j3 h3)]
  have hq0:q≠0:=fun e=>by
   obtain⟨p,v,k1,_⟩:=h2;rw[e,k1]at h3;cases h3
  generalize (s.take i).flatMap pn=acc at *;by_cases hc:(s.getD i 0).toNat=34\/(s.getD i 0).toNat=92
  ·rw[pn,au hc]at ht;repeat' first|refine cz h3 ?_|refine aB ?_|with_reducible refine bP (Builder_WriteByte Cp _ 0 _ 92 92 rfl hb ae) ?_|refine aA ?_ ?_<;>intro hw<;>try omega|fail
   all_goals first
    | (rintro o σ1 ⟨rfl, uo, dR⟩
       have h3a:=dR.2 q _ h3' hq0 (fun _ _=>by simp);repeat' first|refine aB ?_|with_reducible refine bP (ya Cp _ 0 _ (s.getD i 0) hai uo aQ (by simp only[aC,aO,bt];omega)) ?_|refine aA ?_ ?_<;>intro hw<;>try omega|fail
       rintro o σ2 ⟨⟨rr,rfl⟩,iA,lj⟩;repeat' first|refine aB ?_|refine aA ?_ ?_<;>intro hw<;>try omega|fail
       refine⟨(i+1,σ2),⟨?_,?_,?_⟩,?_,rfl,da,at_⟩
       ·dsimp only;omega
       ·dsimp only;rw[ht];simpa using iA
       ·exact lj.2 q _ h3a hq0 (fun _ _=>by simp)
       ·dsimp only;omega)
    | exact bJ
  rw[pn,aj hc]at ht;repeat' first|refine cz h3 ?_|refine aB ?_|with_reducible refine bP (ya Cp _ 0 _ (s.getD i 0) hai hb hne ae) ?_|refine aA ?_ ?_<;>intro hw<;>try omega|fail
  all_goals first
   | (rintro o σ2 ⟨⟨rr, rfl⟩, iA, lj⟩
      repeat' first|refine aB ?_|refine aA ?_ ?_<;>intro hw<;>try omega|fail
      refine⟨(i+1,σ2),⟨?_,?_,?_⟩,?_,rfl,da,at_⟩
      ·dsimp only;omega
      ·dsimp only;rw[ht];simpa using iA
      ·exact lj.2 q _ h3' hq0 (fun _ _=>by simp)
      ·dsimp only;omega)
   | exact bJ
 have kK:i=s.length:=ae;have Ae:s.take i=s:=bG ae;rw[Ae]at h2 Lt;simp only[aO]at Lt;repeat' first|refine cz h3 ?_|refine aB ?_|with_reducible refine bP (Builder_WriteByte Cp _ 0 _ 34 34 rfl h2 (by simp only[aO];omega)) ?_|refine aA ?_ ?_<;>intro hw<;>try omega|fail
 rintro o σ1 ⟨rfl,uo,_⟩;repeat' first|refine aB ?_|with_reducible refine bP (Builder_String _ 0 _ uo (by simp only[aC,aO,bt];omega)) ?_|refine aA ?_ ?_<;>intro hw<;>try omega|fail
 rintro o σ2 ⟨rfl,_⟩;repeat' first|refine aB ?_|refine aA ?_ ?_<;>intro hw<;>try omega|fail
 refine aZ ?_ rfl;simp[zw]
def Tf{s:aU}(h:mw s=true): ∀ i,i<s.length->(s.getD i 0).toNat<128:=by
 intro i hi;simp only[mw,aD,bf]at h;have:=h.2 (s.getD i 0) (by rw[aq,aG hi];exact dI hi);rw[DE]at this;omega
def YL(v:aX)(h0 : -9223372036854775808<=v.n)(h1:v.n<=9223372036854775807)(hr:cg v=true): aS aH 171 [c8 v] (.bU [.str (DN v),I 0]):=by
 obtain⟨k,n,s⟩:=v;dsimp only at h0 h1;have c1:=l7 k n s h0 h1;rw[hr]at c1;simp only[ji,if_true]at c1;have c2:=strconv_Itoa n h0 h1
 have c3:k=2->aS aH 213 [.str s] (.str (zw s)):=fun hk=>by
  unfold cg at hr;dsimp only at hr;rw[aj ae,aj ae,au hk]at hr;simp only[aD]at hr;have hp:=hr.2;refine Vg s (Tf hp) ?_;simp only[mw,aD,aM]at hp;omega
 have c4:=fun b=>strconv_FormatBool b;clear hr;have hS:DN ⟨k,n,s⟩=if k=1 then Lib.itoa n else if k=2 then zw s else if k=3 then(if n=1 then AA else xk)else L4:=rfl
 rw[hS];clear hS;generalize Lib.itoa n=t1 at *;generalize zw s=t2 at *;simp only[c8];by_cases k2:k=2
 ·have c5:=c3 k2;clear c3;subst k2;refine a_ ED ?_;intro Q aJ aK aL;repeat' first|refine aB ?_|refine aA ?_ ?_<;>intro hw<;>try omega|fail
  all_goals (refine cn ?_ rfl;simp)
 clear c3;refine a_ ED ?_;intro Q aJ aK aL;repeat' first|refine aB ?_|refine eU (c4 _) ?_|refine aA ?_ ?_<;>intro hw<;>try omega|fail
 all_goals (refine cn ?_ rfl;simp_all[AA,xk,L4])
abbrev TW: TypeId:=206
def qI: Gp TW:=by unfold Gp;kernel_rfl
def Ti(x:Expr): aS aH 169 [br x] (I (fT x.op)):=by
 have hf:=Bu x.op;have hS:fT x.op=if x.op=16 then 0 else if x.op=3 then 6 else if x.op=1\/x.op=2 then 7 else(fB x.op).level:=rfl
 rw[hS];clear hS;simp only[SM]at hf;generalize fB x.op=b at *;rw[bM];refine a_ LR ?_;intro Q aJ aK aL;repeat' first|refine aB ?_|refine aA ?_ ?_<;>intro hw<;>try omega|fail
 all_goals (refine aZ ?_ rfl;simp_all)
def afq(x:Expr): Prop:= ∀(lv:Int) (σ : ai) (l:Nat) (s:aU),po TW σ l s->s.length+(lI x lv).length<=2^38 ->
 cE aH 124 [.ref l 0,.agg [I x.op,I x.v.kind,I x.v.n,.str x.v.s,.str x.s,.aR false EX (x.l.map br)],I lv] σ fun o σ'=>o = .ret (.bU [])/\po TW σ' l (s++lI x lv)/\kj l σ σ'
def YM(x:Expr): ef x=true->jj x->afq x:=by
 induction x using Expr.ind with
 | h op v s l ih =>
   intro hr hx;have aiv:=EJ hr;have hL:=Ti (.mk op v s l);rw[bM]at hL;simp only[jj]at hx;obtain⟨hs,hvs,hv1,hv2,hl⟩:=hx;have O7:∀ y ∈ l,ef y=true->afq y:=fun y hy hry=>ih y hy hry (Cm hl hy)
   have YN:∀ (lv:Int) (σ : ai) (k:Nat) (t:aU),¬ fT op<lv->po TW σ k t->t.length+(f_ (.mk op v s l)).length<=2^38 ->
    cE aH 124 [.ref k 0,.agg [I op,I v.kind,I v.n,.str v.s,.str s,.aR false EX (l.map br)],I lv] σ fun o σ'=>o = .ret (.bU [])/\po TW σ' k (t++f_ (.mk op v s l))/\kj k σ σ':=by
    intro lv σ k t hlv hb hlen;have x4:=hb.lt;have uo:=fun o:aY=>hb.push [o];have xj:∀ {σ':ai} {o:aY},kj k (σ++[o]) σ'->(∀ T xs,o≠ .dn (some T) E1 xs)->σ'[σ.length]? = some o:=fun dR zy=>dR.2 σ.length _ aQ ae zy;have Gq:=hL;simp only[Expr.afo,Expr.aif,Expr.aih,Expr.aii]at Gq;rcases wL hr with⟨rfl,rfl,rfl,h1,_⟩|⟨rfl,rfl,rfl,h1⟩|⟨rfl,rfl,rfl,a,rfl,ha⟩|⟨rfl,rfl,rfl,a,b,c,rfl,ha,hb',hc⟩|⟨o1,o2,rfl,rfl,lv1,lv5,YJ,_,_,a,b,rfl,ha,hb'⟩
    ·have ht:=YL v hv1 hv2 h1;have hW:f_ (.mk 1 v [] [])=DN v:=by simp[f_,uW]
     rw[hW]at hlen |-;generalize DN v=tv at *;generalize fT 1=lv1 at *;simp only[c8]at ht;simp only[de]at Gq |-;refine jB.go ?_;unfold dP;intro Q aJ aK aL;repeat' first|refine aB ?_|with_reducible refine bP (Builder_WriteString qI _ k t tv (uo _) ae) ?_|refine aA ?_ ?_<;>intro hw<;>try omega|fail
     all_goals first
      | (rintro o σ1 ⟨rfl, iA, dR⟩
         repeat' first|refine aB ?_|refine aA ?_ ?_<;>intro hw<;>try omega|fail
         exact⟨rfl,iA,dR.sk⟩)
      | exact bJ
    ·have hW:f_ (.mk 2 v0 s [])=s:=by simp[f_,uW]
     rw[hW]at hlen |-;generalize fT 2=lv1 at *;simp only[de]at Gq |-;refine jB.go ?_;unfold dP;intro Q aJ aK aL;repeat' first|refine aB ?_|with_reducible refine bP (Builder_WriteString qI _ k t s (uo _) ae) ?_|refine aA ?_ ?_<;>intro hw<;>try omega|fail
     all_goals first
      | (rintro o σ1 ⟨rfl, iA, dR⟩
         repeat' first|refine aB ?_|refine aA ?_ ?_<;>intro hw<;>try omega|fail
         exact⟨rfl,iA,dR.sk⟩)
      | exact bJ
    ·have pa:=O7 a aQ ha;have hW:f_ (.mk 3 v0 [] [a])=45::lI a 6:=by simp[f_,xm,uW,lI]
     rw[hW,aO]at hlen;rw[hW];have pa:=pa 6;generalize lI a 6=t1 at *;generalize fT 3=lv1 at *;simp only[bB,de,bM a]at Gq |-;refine jB.go ?_;unfold dP;intro Q aJ aK aL;repeat' first|refine aB ?_|with_reducible refine bP (Builder_WriteByte qI _ k t 45 45 rfl (uo _) ae) ?_|refine aA ?_ ?_<;>intro hw<;>try omega|fail
     all_goals first
      | (rintro o σ1 ⟨rfl, iA, dR⟩
         have qg:=xj dR (fun _ _=>by simp);repeat' first|refine cz qg ?_|refine aB ?_|with_reducible refine bP (pa _ k _ iA (by simp only[aC,aO,bt];omega)) ?_|refine aA ?_ ?_<;>intro hw<;>try omega|fail
         rintro o σ2 ⟨rfl,Cq,lj⟩;repeat' first|refine aB ?_|refine aA ?_ ?_<;>intro hw<;>try omega|fail
         exact⟨rfl,by simpa using Cq,(dR.trans lj).sk⟩)
      | exact bJ
    ·have pa:=O7 a aQ ha 0;have pb:=O7 b aQ hb' 0;have pc:=O7 c aQ hc 0;have hW:f_ (.mk 16 v0 [] [a,b,c])=ua++lI a 0++rG++lI b 0++zx++lI c 0:=by simp[f_,xm,uW,lI]
     rw[hW]at hlen |-;simp only[aC,ua,rG,zx,aO,bt]at hlen;generalize lI a 0=t1 at *;generalize lI b 0=t2 at *;generalize lI c 0=t3 at *;generalize fT 16=lv1 at *;simp only[bB,de,bM a,bM b,bM c]at Gq |-;refine jB.go ?_;unfold dP;intro Q aJ aK aL;repeat' first|refine aB ?_|refine aA ?_ ?_<;>intro hw<;>try omega|fail
     all_goals try (exfalso;omega)
     obtain⟨C,hC⟩:∃ C,C=aY.cells [I 16,I v0.kind,I v0.n,.str v0.s,.str [],.aR false EX [.agg [I a.op,I a.v.kind,I a.v.n,.str a.v.s,.str a.s,.aR false EX (a.l.map br)],.agg [I b.op,I b.v.kind,I b.v.n,.str b.v.s,.str b.s,.aR false EX (b.l.map br)],.agg [I c.op,I c.v.kind,I c.v.n,.str c.v.s,.str c.s,.aR false EX (c.l.map br)]]]:=⟨_,rfl⟩;have hCn:∀ T xs,C≠ .dn (some T) E1 xs:=by rw[hC];intro T xs h;cases h
     with_reducible refine bE [8,2,98,17] (fun x:Int × ai=>[(98,I x.1)]) (fun x=>x.2) (fun x=>(x.1=0/\po TW x.2 k t\/x.1=1/\po TW x.2 k (t++(ua++t1))\/x.1=2/\po TW x.2 k (t++(ua++t1++rG++t2))\/x.1=3/\po TW x.2 k (t++(ua++t1++rG++t2++zx++t3)))/\kj k σ x.2/\x.2[σ.length]? = some C) (fun x=>(3-x.1).toNat) (0,σ++[C]) ?_ ?_ ?_ ?_
     ·exact⟨.inl ⟨rfl,hb.push _⟩,(kj.refl k (σ++[C])).sk,aQ⟩
     ·rw[hC]
     ·exact at_
     rintro⟨i,σ1⟩ r ⟨hi,dR,qg⟩;dsimp only at hi dR qg;have keep:∀ {σ2:ai},kj k σ1 σ2->σ2[σ.length]? = some C:=fun h=>h.2 _ _ qg ae hCn;rcases hi with⟨rfl,Lj⟩|⟨rfl,Lj⟩|⟨rfl,Lj⟩|⟨rfl,Lj⟩
     ·repeat' first|simp (disch:=omega) only[go_sem,aJ,aK,aL,show(0:Int).toNat=0 from rfl]|refine aB ?_|with_reducible refine bP (Builder_WriteString qI _ k _ _ Lj (by simp;omega)) ?_|refine aA ?_ ?_<;>intro hw<;>try omega|fail
      all_goals first
       | (rintro o σ2 ⟨rfl, iA, lj⟩
          have mJ:=keep lj;rw[hC]at mJ;repeat' first|simp (disch:=omega) only[go_sem,aJ,aK,aL,mJ,show(0:Int).toNat=0 from rfl]|refine aB ?_|with_reducible refine bP (pa _ k _ iA (by simp[ua];omega)) ?_|refine aA ?_ ?_<;>intro hw<;>try omega|fail
          rintro o σ3 ⟨rfl,Cq,uX⟩;repeat' first|refine aB ?_|refine aA ?_ ?_<;>intro hw<;>try omega|fail
          refine⟨(1,σ3),⟨.inr (.inl ⟨rfl,by simpa[ua]using Cq⟩),dR.trans (lj.trans uX),keep (lj.trans uX)⟩,(by dsimp only;decide),rfl,da,at_⟩)
       | exact bJ
     ·repeat' first|simp (disch:=omega) only[go_sem,aJ,aK,aL,Int.toNat_one]|refine aB ?_|with_reducible refine bP (Builder_WriteString qI _ k _ _ Lj (by simp[ua];omega)) ?_|refine aA ?_ ?_<;>intro hw<;>try omega|fail
      all_goals first
       | (rintro o σ2 ⟨rfl, iA, lj⟩
          have mJ:=keep lj;rw[hC]at mJ;repeat' first|simp (disch:=omega) only[go_sem,aJ,aK,aL,mJ,Int.toNat_one]|refine aB ?_|with_reducible refine bP (pb _ k _ iA (by simp[ua,rG];omega)) ?_|refine aA ?_ ?_<;>intro hw<;>try omega|fail
          rintro o σ3 ⟨rfl,Cq,uX⟩;repeat' first|refine aB ?_|refine aA ?_ ?_<;>intro hw<;>try omega|fail
          refine⟨(2,σ3),⟨.inr (.inr (.inl ⟨rfl,by simpa[ua,rG]using Cq⟩)),dR.trans (lj.trans uX),keep (lj.trans uX)⟩,(by dsimp only;decide),rfl,da,at_⟩)
       | exact bJ
     ·repeat' first|simp (disch:=omega) only[go_sem,aJ,aK,aL,show(2:Int).toNat=2 from rfl]|refine aB ?_|with_reducible refine bP (Builder_WriteString qI _ k _ _ Lj (by simp[ua,rG];omega)) ?_|refine aA ?_ ?_<;>intro hw<;>try omega|fail
      all_goals first
       | (rintro o σ2 ⟨rfl, iA, lj⟩
          have mJ:=keep lj;rw[hC]at mJ;repeat' first|simp (disch:=omega) only[go_sem,aJ,aK,aL,mJ,show(2:Int).toNat=2 from rfl]|refine aB ?_|with_reducible refine bP (pc _ k _ iA (by simp[ua,rG,zx];omega)) ?_|refine aA ?_ ?_<;>intro hw<;>try omega|fail
          rintro o σ3 ⟨rfl,Cq,uX⟩;repeat' first|refine aB ?_|refine aA ?_ ?_<;>intro hw<;>try omega|fail
          refine⟨(3,σ3),⟨.inr (.inr (.inr ⟨rfl,by simpa[ua,rG,zx]using Cq⟩)),dR.trans (lj.trans uX),keep (lj.trans uX)⟩,(by dsimp only;decide),rfl,da,at_⟩)
       | exact bJ
     repeat' first|refine aB ?_|refine aA ?_ ?_<;>intro hw<;>try omega|fail
     all_goals first
      | exact⟨rfl,Lj,dR⟩
      | exact bJ
    have pa:=O7 a aQ ha;have pb:=O7 b aQ hb';have hf:=Bu op;have hsl:=Td op
    have hW:f_ (.mk op v0 [] [a,b])=lI a (if(fB op).level=3 then 4 else(fB op).level)++[32]++(fB op).sign++[32]++lI b ((fB op).level+1):=by
     simp only[f_,xm,uW];rw[aj ae,aj ae,aj ae,aj ae];rfl
    rw[hW]at hlen |-;rw[YJ]at Gq hlv;clear hW YJ aiv hL;have hg1:∀ {σ':ai} {o o':aY},kj k (σ++[o]++[o']) σ'->(∀ T xs,o≠ .dn (some T) E1 xs)->σ'[σ.length]? = some o:=fun dR zy=>dR.2 σ.length _ aQ ae zy;have hg2:∀ {σ':ai} {o o':aY},kj k (σ++[o]++[o']) σ'->(∀ T xs,o'≠ .dn (some T) E1 xs)->σ'[σ.length+1]? = some o':=fun dR zy=>dR.2 (σ.length+1) _ aQ ae zy;simp only[aC,aO,bt]at hlen;simp only[SM]at hf;generalize hBB:fB op=B at *;obtain⟨bop,sg,lvl⟩:=B;dsimp only at *;simp only[bB,de,bM a,bM b]at Gq |-;by_cases h3:lvl=3
    ·subst h3;simp only[if_true]at hlen |-;have pa:=pa 4;have pb:=pb (3+1);generalize lI a 4=t1 at *;generalize lI b (3+1)=t2 at *;simp only[Int.reduceAdd]at pb;refine jB.go ?_;unfold dP;intro Q aJ aK aL;repeat' first|simp (disch:=omega) only[go_sem,aJ,aK,aL,Int.reduceAdd]|refine aB ?_|with_reducible refine bP (pa _ k t ((hb.push _).push _) ae) ?_|refine aA ?_ ?_<;>intro hw<;>try omega|fail
     all_goals first
      | (rintro o σ1 ⟨rfl, iA, dR⟩
         have qg:=hg1 dR (fun _ _=>by simp);have mJ:=hg2 dR (fun _ _=>by simp);repeat' first|refine cz (zA qg mJ) ?_|refine aB ?_|with_reducible refine bP (Builder_WriteString qI _ k _ _ iA (by simp only[aC,aO,bt];omega)) ?_|refine aA ?_ ?_<;>intro hw<;>try omega|fail
         rintro o σ2 ⟨rfl,Cq,lj⟩;have qg:=lj.2 _ _ qg ae (fun _ _=>by simp);have mJ:=lj.2 _ _ mJ ae (fun _ _=>by simp);repeat' first|simp (disch:=omega) only[go_sem,aJ,aK,aL,qg,mJ,Int.toNat_one,Int.reduceAdd]|refine aB ?_|with_reducible refine bP (pb _ k _ Cq (by simp only[aC,aO,bt];omega)) ?_|refine aA ?_ ?_<;>intro hw<;>try omega|fail
         rintro o σ3 ⟨rfl,hb4,uX⟩;repeat' first|refine aB ?_|refine aA ?_ ?_<;>intro hw<;>try omega|fail
         exact⟨rfl,by simpa using hb4,((dR.trans lj).trans uX).sk.sk⟩)
      | exact bJ
    simp only[aj h3]at hlen |-;have pa:=pa lvl;have pb:=pb (lvl+1);generalize lI a lvl=t1 at *;generalize lI b (lvl+1)=t2 at *;refine jB.go ?_;unfold dP;intro Q aJ aK aL;repeat' first|simp (disch:=omega) only[go_sem,aJ,aK,aL,Int.reduceAdd]|refine aB ?_|with_reducible refine bP (pa _ k t ((hb.push _).push _) ae) ?_|refine aA ?_ ?_<;>intro hw<;>try omega|fail
    all_goals first
     | (rintro o σ1 ⟨rfl, iA, dR⟩
        have qg:=hg1 dR (fun _ _=>by simp);have mJ:=hg2 dR (fun _ _=>by simp);repeat' first|refine cz (zA qg mJ) ?_|refine aB ?_|with_reducible refine bP (Builder_WriteString qI _ k _ _ iA (by simp only[aC,aO,bt];omega)) ?_|refine aA ?_ ?_<;>intro hw<;>try omega|fail
        rintro o σ2 ⟨rfl,Cq,lj⟩;have qg:=lj.2 _ _ qg ae (fun _ _=>by simp);have mJ:=lj.2 _ _ mJ ae (fun _ _=>by simp);repeat' first|simp (disch:=omega) only[go_sem,aJ,aK,aL,qg,mJ,Int.toNat_one,Int.reduceAdd]|refine aB ?_|with_reducible refine bP (pb _ k _ Cq (by simp only[aC,aO,bt];omega)) ?_|refine aA ?_ ?_<;>intro hw<;>try omega|fail
        rintro o σ3 ⟨rfl,hb4,uX⟩;repeat' first|refine aB ?_|refine aA ?_ ?_<;>intro hw<;>try omega|fail
        exact⟨rfl,by simpa using hb4,((dR.trans lj).trans uX).sk.sk⟩)
     | exact bJ
   intro lv σ k t hb hlen;by_cases hlv:fT op<lv
   ·rw[Te (x:= .mk op v s l) hlv]at hlen |-;rw[aO,aC,aO,bt]at hlen;have x4:=hb.lt;have xj:∀ {σ':ai} {o:aY},kj k (σ++[o]) σ'->(∀ T xs,o≠ .dn (some T) E1 xs)->σ'[σ.length]? = some o:=fun dR zy=>dR.2 σ.length _ aQ ae zy;have sA:=fun σ t h1 h2=>YN 0 σ k t (by show ¬ fT op<0;have:0<=fT op:=aiv;omega) h1 h2;clear YN;generalize f_ (.mk op v s l)=w at *;simp only[Expr.afo,Expr.aif,Expr.aih,Expr.aii]at hL |-;generalize fT op=lv1 at *;refine jB.go ?_;unfold dP;intro Q aJ aK aL;repeat' first|refine aB ?_|with_reducible refine bP (Builder_WriteByte qI _ k t 40 40 rfl (hb.push _) ae) ?_|refine aA ?_ ?_<;>intro hw<;>try omega|fail
    all_goals first
     | (rintro o σ1 ⟨rfl, iA, dR⟩
        have qg:=xj dR (fun _ _=>by simp);repeat' first|refine cz qg ?_|refine aB ?_|with_reducible refine bP (sA _ _ iA (by simp only[aC,aO,bt];omega)) ?_|refine aA ?_ ?_<;>intro hw<;>try omega|fail
        rintro o σ2 ⟨rfl,Cq,lj⟩;repeat' first|refine aB ?_|with_reducible refine bP (Builder_WriteByte qI _ k _ 41 41 rfl Cq (by simp only[aC,aO,bt];omega)) ?_|refine aA ?_ ?_<;>intro hw<;>try omega|fail
        rintro o σ3 ⟨rfl,hb4,uX⟩;repeat' first|refine aB ?_|refine aA ?_ ?_<;>intro hw<;>try omega|fail
        exact⟨rfl,by simpa using hb4,((dR.trans lj).trans uX).sk⟩)
     | exact bJ
   rw[J_ (x:= .mk op v s l) hlv]at hlen |-;exact YN lv σ k t hlv hb hlen
def IL(x:Expr)(hx:jj x)(hz:gV x<=2^30): aS aH 80 [br x] (.bU [.str (AG x).1,I (AG x).2]):=by
 have h1:=Ge x hx ae;have h2:=Bv x ae;have h3:=fun hr=>YM x hr hx 0;have hT:AG x=if ef x=false then([],2)else if 12<mO x then([],12)else if qM x=true then([],5)else (f_ x,0):=rfl
 rw[hT];unfold qM;cases hr:ef x with
 | false =>
   rw[au rfl];rw[hr]at h1;rw[bM]at h1 |-;refine a_ Cc ?_;intro Q aJ aK aL;repeat' first|refine aB ?_|refine aA ?_ ?_<;>intro hw<;>try omega|fail
   all_goals exact cn rfl rfl
 | true =>
   have h3:=h3 hr;rw[adP hr]at h3;have hlen:=YK x hr hx;rw[aj aQ];rw[hr]at h1;generalize f_ x=t at *;generalize mO x=d at *;rw[bM]at h1 h2 |-;have hb0:∀ C:aY,po TW [C,.bY (some TW) [.gO,.aV]] 1 []:=fun C=>⟨_,_,rfl,.inl rfl,.inl ⟨rfl,rfl⟩⟩;refine a_ Cc ?_;intro Q aJ aK aL;by_cases hd:12<d
   ·simp only[au hd]at aJ aK aL;repeat' first|refine aB ?_|refine aA ?_ ?_<;>intro hw<;>try omega|fail
    all_goals first|exact cn rfl rfl|exact bJ
   simp only[aj hd,aM]at aJ aK aL;have YO:t.length<=2^38:=ae;repeat' first|refine aB ?_|with_reducible refine bP (h3 _ 1 [] (hb0 _) (by simpa using YO)) ?_|refine aA ?_ ?_<;>intro hw<;>try omega|fail
   all_goals first
    | (rintro o σ1 ⟨rfl, iA, _⟩
       try rw[bS]at iA
       repeat' first|refine aB ?_|with_reducible refine bP (Builder_Len _ 1 _ iA) ?_|refine aA ?_ ?_<;>intro hw<;>try omega|fail
       rintro o s' ⟨rfl,rfl⟩;by_cases hb:200<t.length
       ·simp only[au hb]at aJ aK aL;repeat' first|refine aB ?_|refine aA ?_ ?_<;>intro hw<;>try omega|fail
        all_goals first|exact cn rfl rfl|exact bJ
       ·simp only[aj hb]at aJ aK aL;repeat' first|refine aB ?_|with_reducible refine bP (Builder_String _ 1 _ iA ae) ?_|refine aA ?_ ?_<;>intro hw<;>try omega|fail
        all_goals first
         | (rintro o σ2 ⟨rfl, _⟩
            repeat' first|refine aB ?_|refine aA ?_ ?_<;>intro hw<;>try omega|fail
            exact cn rfl rfl)
         | exact bJ)
    | exact bJ
def loW(t:Test): aU:=if t.lo then [93]else [91]
def hiW(t:Test): aU:=if t.hi then [91]else [93]
def testW(t:Test): aU:=if t.kind=1 then lI t.a 4 else if t.kind=6 then loW t++lI t.a 4++[46,46]++lI t.b 4++hiW t else mP t.kind++[32]++lI t.a 4
def sJ(t:Test): Bool:=qM t.a ||(decide (t.kind=6) && qM t.b)
def BD: aU:=[44,32]
def Mc(l:List Test): aU:=Lib.join (l.map testW) BD
def NV(n:Bool)(s:aU): aU:=if n then [110,111,116,40]++s++[41]else s
def HM(c:Cell): aU × Int:=if jH c=false then([],2)else if c.any=true then([45],0)else if c.tests.any sJ=true then([],5)
 else if 200<(NV c.neg (Mc c.tests)).length then([],5)else (NV c.neg (Mc c.tests),0)
def zz(t:Test): Prop:=(jj t.a/\gV t.a<=2^30)/\jj t.b/\gV t.b<=2^30
def pR(c:Cell): Prop:=c.tests.length<=2^30/\ ∀ t ∈ c.tests,zz t
def pR.ok{c:Cell}(h:pR c): Po c:=⟨by have:=h.1;omega,fun t ht=>by
 obtain⟨⟨a,b⟩,c,d⟩:=h.2 t ht;exact⟨⟨a,ae⟩,c,ae⟩⟩
def aiw{x:Expr}(h:ef x=true): fT x.op<4↔8<=x.op/\x.op<=16:=by
 obtain⟨op,v,s,l⟩:=x;rcases wL h with⟨rfl,_⟩|⟨rfl,_⟩|⟨rfl,_⟩|⟨rfl,_⟩|⟨_,_,_,_,_,_,h1,h2,h3,_⟩
 ·show fT 1<4↔8<=(1:Int)/\(1:Int)<=16;decide
 ·show fT 2<4↔8<=(2:Int)/\(2:Int)<=16;decide
 ·show fT 3<4↔8<=(3:Int)/\(3:Int)<=16;decide
 ·show fT 16<4↔8<=(16:Int)/\(16:Int)<=16;decide
 show fT op<4↔8<=op/\op<=16;rw[h1];generalize fB op=b at *;simp only[lz,gj,fO,or_false]at h3;rcases h3 with rfl|rfl|rfl|rfl|rfl|rfl|rfl|rfl|rfl|rfl|rfl|rfl<;>(dsimp only at h2 |-;omega)
def aa6{x:Expr}(h:pQ x=true): ef x=true/\AG x=if qM x=true then([],5)else (f_ x,0):=by
 simp only[pQ,aD,aM]at h;refine⟨h.1,?_⟩;unfold AG;rw[aj (by simp[h.1]),aj ae]
def xn{x:Expr}(h:qM x=false)(lv:Int): (lI x lv).length<=202:=by
 simp only[qM,decide_eq_false_iff_not]at h;have:=Mb (fT x.op,f_ x) lv;dsimp only at this;unfold lI;omega
def Md(x:Expr)(hp:pQ x=true)(hx:jj x)(hz:gV x<=2^30): aS aH 164 [br x] (.bU [.str (if qM x=true then []else lI x 4),I (if qM x=true then 5 else 0)]):=by
 obtain⟨hr,ht⟩:=aa6 hp;have h1:=IL x hx hz;have h4:=aiw hr;have hsm:=fun h=>xn (x:=x) h 4;rw[ht]at h1;cases hb:qM x with
 | true =>
   rw[hb]at h1;simp only[if_true]at h1 |-;rw[bM]at h1 |-;refine a_ xL ?_;intro Q aJ aK aL;repeat' first|refine aB ?_|refine aA ?_ ?_<;>intro hw<;>try omega|fail
   all_goals exact cn rfl rfl
 | false =>
   have hsm:=hsm hb;rw[hb]at h1;simp only[aP,if_false]at h1 |-;by_cases hl:fT x.op<4
   ·have ho:=h4.1 hl;rw[Te hl]at hsm |-;rw[aO,aC]at hsm;generalize f_ x=t at *;rw[bM]at h1 |-;refine a_ xL ?_;intro Q aJ aK aL;repeat' first|refine aB ?_|refine aA ?_ ?_<;>intro hw<;>try omega|fail
    all_goals first|(refine cn ?_ rfl;simp;done)|exact bJ
   have ho:¬ (8<=x.op/\x.op<=16):=fun h=>hl (h4.2 h);rw[J_ hl]at hsm |-;generalize f_ x=t at *;rw[bM]at h1 |-;refine a_ xL ?_;intro Q aJ aK aL;repeat' first|refine aB ?_|refine aA ?_ ?_<;>intro hw<;>try omega|fail
   all_goals first|(refine cn ?_ rfl;simp;done)|exact bJ
def Vh{t:Test}(h:pg t=true): pQ t.a=true/\1<=t.kind/\t.kind<=6/\(t.kind=6->pQ t.b=true):=by
 unfold pg at h;split at h
 ·rename_i h6;simp only[aD]at h;exact⟨h.1,ae,ae,fun _=>h.2⟩
 rename_i h6;simp only[aD,aM]at h;exact⟨h.1.1.1.2,h.1.1.1.1.1,ae,fun h=>absurd h h6⟩
def Pt{t:Test}(h:sJ t=false): (testW t).length<=420:=by
 simp only[sJ,Bool.or_eq_false_iff,Bool.and_eq_false_iff,decide_eq_false_iff_not]at h;have ha:=xn h.1 4;have hs:(mP t.kind).length<=2:=by unfold mP;split;simp;split;simp;split;simp;split<;>simp
 unfold testW;split
 ·omega
 split
 ·rename_i h6;have hb:=xn (x:=t.b) (by rcases h.2 with h|h;exact absurd h6 h;exact h) 4;have l1:(loW t).length=1:=by unfold loW;split<;>rfl
  have l2:(hiW t).length=1:=by unfold hiW;split<;>rfl
  simp only[aC,aO,bt];omega
 simp only[aC,aO,bt];omega
def aa7(t:Test)(hs:pg t=true)(h:zz t): aS aH 120 [dV t] (.bU [.str (if sJ t=true then []else testW t),I (if sJ t=true then 5 else 0)]):=by
 obtain⟨p1,k1,k6,p2⟩:=Vh hs;have wa:=Md t.a p1 h.1.1 h.1.2;have hsg:=Pp t.kind;have la:=fun hb=>xn (x:=t.a) hb 4;have lb:=fun hb=>xn (x:=t.b) hb 4;by_cases h6:t.kind=6
 ·have wb:=Md t.b (p2 h6) h.2.1 h.2.2;have hW:testW t=loW t++lI t.a 4++[46,46]++lI t.b 4++hiW t:=by unfold testW;rw[if_neg ae,if_pos h6]
  have hB:sJ t=(qM t.a || qM t.b):=by unfold sJ;rw[decide_eq_true h6,Bool.true_and]
  rw[hW,hB];unfold loW hiW;clear hW hB p1 p2 hs;generalize lI t.a 4=ta at *;generalize lI t.b 4=tb at *;generalize qM t.a=ba at *;generalize qM t.b=bb at *;rw[bM]at wa wb;simp only[dV,ez];cases ba<;>simp only[Bool.false_eq_true,if_false,if_true,Bool.true_or,Bool.false_or]at wa la |-
  ·have la:=la trivial;cases bb<;>simp only[Bool.false_eq_true,if_false,if_true]at wb lb |-
   ·have lb:=lb trivial;refine a_ rz ?_;intro Q aJ aK aL;repeat' first|refine aB ?_|refine aA ?_ ?_<;>intro hw<;>try omega|fail
    all_goals first|(refine cn ?_ rfl;simp_all;done)|exact bJ
   refine a_ rz ?_;intro Q aJ aK aL;repeat' first|refine aB ?_|refine aA ?_ ?_<;>intro hw<;>try omega|fail
   all_goals first|(refine cn ?_ rfl;simp_all;done)|exact bJ
  refine a_ rz ?_;intro Q aJ aK aL;repeat' first|refine aB ?_|refine aA ?_ ?_<;>intro hw<;>try omega|fail
  all_goals first|(refine cn ?_ rfl;simp_all;done)|exact bJ
 have hW:testW t=if t.kind=1 then lI t.a 4 else mP t.kind++[32]++lI t.a 4:=by unfold testW;rw[if_neg h6]
 have hB:sJ t=qM t.a:=by unfold sJ;rw[decide_eq_false h6,Bool.false_and,Bool.or_false]
 have hsl:(mP t.kind).length<=2:=by unfold mP;split;simp;split;simp;split;simp;split<;>simp
 rw[hW,hB];clear hW hB p1 p2 hs;generalize lI t.a 4=ta at *;generalize qM t.a=ba at *;generalize mP t.kind=sg at *;rw[bM]at wa;simp only[dV,ez];cases ba<;>simp only[Bool.false_eq_true,if_false,if_true]at wa la |-
 ·have la:=la trivial;refine a_ rz ?_;intro Q aJ aK aL;repeat' first|refine aB ?_|refine aA ?_ ?_<;>intro hw<;>try omega|fail
  all_goals first|(refine cn ?_ rfl;simp_all;done)|exact bJ
 refine a_ rz ?_;intro Q aJ aK aL;repeat' first|refine aB ?_|refine aA ?_ ?_<;>intro hw<;>try omega|fail
 all_goals first|(refine cn ?_ rfl;simp_all;done)|exact bJ
def Gr{sep:aU}{B:Nat}: ∀(r:List aU),(∀ x ∈ r,x.length<=B)->(Lib.joinTail sep r).length<=r.length*(B+sep.length)
 | [],_=>by simp[Lib.joinTail]
 | x :: r, h => by
   have h1:=h x aQ;have h2:=Gr (sep:=sep) r (fun y hy=>h y (dz _ hy));have e:Lib.joinTail sep (x::r)=sep++x++Lib.joinTail sep r:=by simp[Lib.joinTail]
   rw[e,aC,aC,aO,cu];omega
def adS{sep:aU}{B:Nat}(l:List aU)(h:∀ x ∈ l,x.length<=B): (Lib.join l sep).length<=l.length*(B+sep.length):=by
 cases l with
 | nil=>simp[Lib.join_nil]
 | cons x r =>
   have h1:=h x aQ;have h2:=Gr (sep:=sep) r (fun y hy=>h y (dz _ hy));rw[Lib.join_cons,aC,aO,cu];omega
def aix{l:List Test}{i:Nat}(h:i<l.length): (l.map testW).take (i+1)=(l.map testW).take i++[testW (l.getD i default)]:=by
 rw[dD (by simpa using h)];simp[h]
def agv{l:List Test}{n:Nat}(h:∀ k,k<n->k<l.length->sJ (l.getD k default)=false): ∀ x ∈ (l.map testW).take n,x.length<=420:=by
 intro x hx;obtain⟨k,hk,rfl⟩:=bV hx;simp only[dW,cZ]at hk;have:=Pt (h k ae ae);have e:l.getD k default=l[k]'ae:=by simp[aq,show k<l.length by omega]
 rw[e]at this;simpa using this
def aa8(c:Cell)(h:pR c): aS aH 79 [er c] (.bU [.str (HM c).1,I (HM c).2]):=by
 have IN:=yz c h.ok
 have hT:HM c=if jH c=false then([],2)else if c.any=true then([45],0)else if c.tests.any sJ=true then([],5)
  else if 200<(NV c.neg (Mc c.tests)).length then([],5)else (NV c.neg (Mc c.tests),0):=rfl
 rw[hT];clear hT;cases hr:jH c with
 | false =>
   rw[hr]at IN;simp only[ji,aP,if_false]at IN;rw[au rfl];simp only[er,jr]at IN |-;refine a_ zf ?_;intro Q aJ aK aL;repeat' first|refine aB ?_|refine aA ?_ ?_<;>intro hw<;>try omega|fail
   all_goals exact cn rfl rfl
 | true =>
   rw[hr]at IN;simp only[ji,if_true]at IN;rw[aj aQ];cases ha:c.any with
   | true =>
     rw[au rfl];simp only[er,jr,ha]at IN |-;refine a_ zf ?_;intro Q aJ aK aL;repeat' first|refine aB ?_|refine aA ?_ ?_<;>intro hw<;>try omega|fail
     all_goals exact cn rfl rfl
   | false =>
     rw[aj aQ];have EK:=hr;unfold jH at EK;rw[aj (by simp[ha])]at EK;simp only[aD,aM,ey,List.any_eq_false]at EK;obtain⟨⟨l1,l12⟩,hsd⟩:=EK;have hsd:∀ t ∈ c.tests,pg t=true:=fun t ht=>by have:=hsd t ht;simpa using this
     simp only[er,jr,ha]at IN |-;refine a_ zf ?_;intro Q aJ aK aL;repeat' first|refine aB ?_|refine aA ?_ ?_<;>intro hw<;>try omega|fail
     with_reducible refine bE [2,2,5,1,7,3,21,17] (fun q:Nat × List aY=>[(21,I q.1),(5,.own E1 1 q.1 0 q.1)]) (fun q=> .cells [.bool false,.bool c.neg,.aR false ES (c.tests.map dV)]:: .vec E1 (((c.tests.map testW).take q.1).map fH)::q.2) (fun q=>q.1<=c.tests.length/\ ∀ k,k<q.1->sJ (c.tests.getD k default)=false) (fun q=>c.tests.length-q.1) (0,[]) ?_ ?_ ?_ ?_
     ·simp
     ·simp
     ·exact at_
     rintro⟨i,τ⟩ r ⟨h1,h2⟩;dsimp only at h1 h2;by_cases hi:i<c.tests.length
     ·have hmem:=bq hi;have ht:=aa7 _ (hsd _ hmem) (h.2 _ hmem);have hwt:=aix hi;have dR:=fun he=>cj h2 (i:=i) he;have Ka:=fun hb=>aaN (p:=sJ) hi hb;have hwl:=fun hb=>Pt (t:=c.tests.getD i default) hb;have hvl:((c.tests.map testW).take i).length=i:=by rw[dW,cZ];omega
      generalize hVV:(c.tests.map testW).take i=V at *;obtain⟨t,J9⟩:=cq (c.tests.getD i default);rw[J9]at ht hwt dR Ka hwl;simp only[dV,ez]at ht;generalize testW t=tw at *;cases hb:sJ t with
      | true =>
        rw[hb]at ht;simp only[if_true]at ht;have Ka:=Ka hb;simp only[Ka,if_true]at aJ aK aL;repeat' first|refine cz J9 ?_|refine aB ?_|refine aA ?_ ?_<;>intro hw<;>try omega|fail
        all_goals first|exact cn rfl rfl|exact bJ
      | false =>
        rw[hb]at ht;simp only[aP,if_false]at ht;have dR:=dR hb;repeat' first|refine cz (zA J9 hvl) ?_|refine aB ?_|refine aA ?_ ?_<;>intro hw<;>try omega|fail
        all_goals first
         | (refine ⟨(i + 1, τ ++ [.cells [I t.kind, I t.a.op, I t.a.v.kind, I t.a.v.n, .str t.a.v.s, .str t.a.s, .aR false EX (t.a.l.map br), I t.b.op, I t.b.v.kind, I t.b.v.n, .str t.b.v.s, .str t.b.s, .aR false EX (t.b.l.map br), .bool t.lo, .bool t.hi]]), ?_, ?_, ?_, da, at_⟩ <;> (try dsimp only)
            ·exact⟨ae,dR⟩
            ·omega
            all_goals (rw[hwt];simp[fH]))
         | exact bJ
     have Ae:(c.tests.map testW).take i=c.tests.map testW:=bG (by simp;omega);have kK:i=c.tests.length:=ae;have hnb:c.tests.any sJ=false:=Wx (p:=sJ) (fun k hk=>h2 k ae);have hws:=agv (l:=c.tests) (n:=i) (fun k hk _=>h2 k hk);rw[Ae]at hws |-;have sD:=adS (sep:=BD) _ hws;rw[cZ]at sD;have hj:=strings_Join (c.tests.map testW) BD (by simp;omega) (by simp only[BD,List.length_cons,List.length_nil]at sD;have:c.tests.length*(420+(0+1+1))<=12*422:=Nat.mul_le_mul l12 (Nat.le_refl _);unfold BD;omega)
     have amG:(Lib.join (c.tests.map testW) BD).length<=12*422:=by
      simp only[BD,aO,bt]at sD;have:c.tests.length*(420+(0+1+1))<=12*422:=Nat.mul_le_mul l12 (bg _);unfold BD;omega
     have hlw:(c.tests.map testW).length=i:=by rw[cZ];omega
     simp only[hnb,aP,if_false,Mc]at aJ aK aL;clear sD;obtain⟨J,hJ⟩:=cq (Lib.join (c.tests.map testW) BD);rw[hJ]at hj amG;simp only[hJ]at aJ aK aL;clear hJ;simp only[iY,BD]at hj;have hvw:∀ σ : ai,σ[1]? = some (.vec E1 ((c.tests.map testW).map fH))->cY σ [.own E1 1 i 0 i,.str [44,32]] [.aR false E1 ((c.tests.map testW).map fH),.str [44,32]]:=fun σ iE=> .cons (View.vec iE (by rw[cZ,hlw]) (by rw[cZ,hlw]) (w9 _)) (.cons (.refl _ rfl) (.nil _));cases hn:c.neg with
     | true =>
       simp only[hn,NV,if_true]at aJ aK aL;by_cases hbig:200<([110,111,116,40]++J++[41]:aU).length
       ·simp only[au hbig]at aJ aK aL;simp only[aC,aO,bt]at hbig;repeat' first|refine aB ?_|(with_reducible refine yM hj (hvw _ rfl) rfl ?_)|refine aA ?_ ?_<;>intro hw<;>try omega|fail
        all_goals first|exact cn rfl rfl|exact bJ
       simp only[aj hbig]at aJ aK aL;simp only[aC,aO,bt]at hbig;repeat' first|refine aB ?_|(with_reducible refine yM hj (hvw _ rfl) rfl ?_)|refine aA ?_ ?_<;>intro hw<;>try omega|fail
       all_goals first|(refine cn ?_ rfl;simp;done)|exact bJ
     | false =>
       simp only[hn,NV,aP,if_false]at aJ aK aL;by_cases hbig:200<J.length
       ·simp only[au hbig]at aJ aK aL;repeat' first|refine aB ?_|(with_reducible refine yM hj (hvw _ rfl) rfl ?_)|refine aA ?_ ?_<;>intro hw<;>try omega|fail
        all_goals first|exact cn rfl rfl|exact bJ
       simp only[aj hbig]at aJ aK aL;repeat' first|refine aB ?_|(with_reducible refine yM hj (hvw _ rfl) rfl ?_)|refine aA ?_ ?_<;>intro hw<;>try omega|fail
       all_goals first|exact cn rfl rfl|exact bJ
def xU (fn : FuncId) (cap : List AV) (hcap : AV.cG cap = true) (p : cV -> Bool) (l : List cV) (h : ∀ k, k < l.length -> aS aH fn (dQ (l.getD k default) :: cap) (.bool (p (l.getD k default)))) (hl : l.length <= 2^62) :
    aS aH 179 [b_ l,.fn (.func fn) [] cap] (.bool (l.any p)):=by
 refine a_ vy ?_ (by simp[AV.dy,AV.cG,hcap,kf]);intro Q aJ aK aL;have hc:=sE fn cap hcap p l h hl;simp only[b_]at hc;repeat' first|refine aB ?_|refine aA ?_ ?_<;>intro hw<;>try omega|fail
 all_goals refine aZ ?_ rfl
 all_goals rw[<-wg]
def sF (fn : FuncId) (cap : List AV) (hcap : AV.cG cap = true) (p : cV -> cV -> Bool) (l m : List cV)
    (h:∀ k,k<l.length->k<m.length->aS aH fn (dQ (l.getD k default)::dQ (m.getD k default)::cap) (.bool (p (l.getD k default) (m.getD k default)))) (hl:l.length<=2^62) (hm:m.length<=2^62) :
    aS aH 125 [b_ l,b_ m,.fn (.func fn) [] cap] (.bool (fR p l m)):=by
 refine a_ xM ?_ (by simp[AV.dy,AV.cG,hcap,kf]);intro Q aJ aK aL;repeat' first|refine aB ?_|refine aA ?_ ?_<;>intro hw<;>try omega|fail
 ·refine aZ ?_ rfl;rw[nU ae]
 have qj:l.length=m.length:=ae;with_reducible refine bE [6,4,17,15] (fun p:Nat × List aY=>[(17,I p.1)]) (fun p=>p.2) (fun q=>q.1<=l.length/\ ∀ k,k<q.1->p (l.getD k default) (m.getD k default)=true) (fun p=>l.length-p.1) (0,[]) ?_ ?_ ?_ ?_
 ·simp
 ·rfl
 ·exact at_
 rintro⟨i,τ⟩ r ⟨h1,h2⟩;dsimp only at h1 h2;by_cases hi:i<l.length
 ·have hy:=h i hi ae;simp only[dV,dQ,fY,mM,er,ez,jr,bu,iY,sX]at hy;repeat' first|refine aB ?_|refine aA ?_ ?_<;>intro hw<;>try omega|fail
  ·refine aZ ?_ rfl;rw[qi hi hw ae]
  refine⟨(i+1,τ++[.cells [.str (l.getD i default).name,I (l.getD i default).kind,.aR false EV ((l.getD i default).order.map c8)]]++[.cells [.str (m.getD i default).name,I (m.getD i default).kind,.aR false EV ((m.getD i default).order.map c8)]]),?_,?_,by first|rfl|(simp[go_sem];done),da,at_⟩<;>(try dsimp only)
  ·exact⟨ae,cj h2 hw⟩
  omega
 repeat' first|refine aB ?_|refine aA ?_ ?_<;>intro hw<;>try omega|fail
 refine aZ ?_ rfl;rw[nW qj (fun k hk=>h2 k ae)]
def Cr (fn : FuncId) (cap : List AV) (hcap : AV.cG cap = true) (p : ia -> ia -> Bool) (l m : List ia)
    (h:∀ k,k<l.length->k<m.length->aS aH fn (fY (l.getD k default)::fY (m.getD k default)::cap) (.bool (p (l.getD k default) (m.getD k default)))) (hl:l.length<=2^62) (hm:m.length<=2^62) :
    aS aH 127 [eR l,eR m,.fn (.func fn) [] cap] (.bool (fR p l m)):=by
 refine a_ zi ?_ (by simp[AV.dy,AV.cG,hcap,r_]);intro Q aJ aK aL;repeat' first|refine aB ?_|refine aA ?_ ?_<;>intro hw<;>try omega|fail
 ·refine aZ ?_ rfl;rw[nU ae]
 have qj:l.length=m.length:=ae;with_reducible refine bE [6,4,17,15] (fun p:Nat × List aY=>[(17,I p.1)]) (fun p=>p.2) (fun q=>q.1<=l.length/\ ∀ k,k<q.1->p (l.getD k default) (m.getD k default)=true) (fun p=>l.length-p.1) (0,[]) ?_ ?_ ?_ ?_
 ·simp
 ·rfl
 ·exact at_
 rintro⟨i,τ⟩ r ⟨h1,h2⟩;dsimp only at h1 h2;by_cases hi:i<l.length
 ·have hy:=h i hi ae;simp only[dV,dQ,fY,mM,er,ez,jr,bu,iY,sX]at hy;repeat' first|refine aB ?_|refine aA ?_ ?_<;>intro hw<;>try omega|fail
  ·refine aZ ?_ rfl;rw[qi hi hw ae]
  refine⟨(i+1,τ++[.cells [.aR false E1 ((l.getD i default).cells.map fH),.aR false E1 ((l.getD i default).outs.map fH)]]++[.cells [.aR false E1 ((m.getD i default).cells.map fH),.aR false E1 ((m.getD i default).outs.map fH)]]),?_,?_,by first|rfl|(simp[go_sem];done),da,at_⟩<;>(try dsimp only)
  ·exact⟨ae,cj h2 hw⟩
  omega
 repeat' first|refine aB ?_|refine aA ?_ ?_<;>intro hw<;>try omega|fail
 refine aZ ?_ rfl;rw[nW qj (fun k hk=>h2 k ae)]
def NW(v u:aX): (v==u)=((v.kind==u.kind) && (v.n==u.n) && (v.s==u.s)):=by
 obtain⟨a,b,c⟩:=v;obtain⟨d,e,f⟩:=u;rw[c7];simp[and_assoc]
def rH(l:List aX)(v:aX)(hl:l.length<=2^60): aS aH 218 [bu l,c8 v] (I (kW (fun x=>x==v) l)):=by
 simp only[bu,c8];refine a_ Ci ?_;intro Q aJ aK aL;repeat' first|refine aB ?_|refine aA ?_ ?_<;>intro hw<;>try omega|fail
 with_reducible refine bE [4,2,8,11] (fun i:Nat=>[(8,I i)]) (fun _=>[.cells [I v.kind,I v.n,.str v.s]]) (fun i=>i<=l.length/\ ∀ k,k<i->(l.getD k default==v)=false) (fun i=>l.length-i) (0) ?_ ?_ ?_ ?_
 ·simp
 ·rfl
 ·exact at_
 rintro i r ⟨h1,h2⟩;by_cases hi:i<l.length
 ·obtain⟨u,hu⟩:=cq (l.getD i default);have hb:=NW u v;repeat' first|refine cz hu ?_|refine aB ?_|refine aA ?_ ?_<;>intro hw<;>try omega|fail
  ·refine aZ ?_ rfl;refine aW I ?_;exact(qH (p:=fun x=>x==v) hi h2 (by rw[hu,hb];simp_all)).symm
  refine⟨i+1,?_,?_,by first|rfl|(simp[go_sem];done),da,at_⟩<;>(try dsimp only)
  ·exact⟨ae,cj h2 (by rw[hu,hb,<-Bool.not_eq_true];simp only[<-Bool.not_eq_true,aD,beq_iff_eq,not_and]at hw |-;intro c;exact fun d=>hw ⟨c.1.symm,c.2.symm⟩ d.symm)⟩
  omega
 repeat' first|refine aB ?_|refine aA ?_ ?_<;>intro hw<;>try omega|fail
 refine aZ ?_ rfl;refine aW I ?_;exact(nA (p:=fun x=>x==v) fun k hk=>h2 k ae).symm
def xo(l m:List aX)(hl:l.length<=2^60)(hm:m.length<=2^60): aS aH 66 [bu l,bu m] (.bool (fR (fun a b=>a==b) l m)):=by
 simp only[bu];refine a_ Ch ?_;intro Q aJ aK aL;repeat' first|refine aB ?_|refine aA ?_ ?_<;>intro hw<;>try omega|fail
 ·refine aZ ?_ rfl;rw[nU ae]
 have qj:l.length=m.length:=ae;with_reducible refine bE [4,2,13,13] (fun i:Nat=>[(13,I i)]) (fun _=>[]) (fun i=>i<=l.length/\ ∀ k,k<i->(l.getD k default==m.getD k default)=true) (fun i=>l.length-i) (0) ?_ ?_ ?_ ?_
 ·simp
 ·rfl
 ·exact at_
 rintro i r ⟨h1,h2⟩;by_cases hi:i<l.length
 ·have hb:=NW (l.getD i default) (m.getD i default);repeat' first|refine aB ?_|refine aA ?_ ?_<;>intro hw<;>try omega|fail
  ·refine aZ ?_ rfl;rw[qi (p:=fun a b=>a==b) hi (by rw[hb,<-Bool.not_eq_true];simp_all) ae]
  refine⟨i+1,?_,?_,by first|rfl|(simp[go_sem];done),da,at_⟩<;>(try dsimp only)
  ·exact⟨ae,cj h2 (by rw[hb];simp_all)⟩
  omega
 repeat' first|refine aB ?_|refine aA ?_ ?_<;>intro hw<;>try omega|fail
 refine aZ ?_ rfl;rw[nW (p:=fun a b=>a==b) qj (fun k hk=>h2 k ae)]
def vH(l m:List aU)(hl:l.length<=2^60)(hm:m.length<=2^60): aS aH 173 [iY l,iY m] (.bool (fR (fun a b=>a==b) l m)):=by
 simp only[iY];refine a_ Br ?_;intro Q aJ aK aL;repeat' first|refine aB ?_|refine aA ?_ ?_<;>intro hw<;>try omega|fail
 ·refine aZ ?_ rfl;rw[nU ae]
 have qj:l.length=m.length:=ae;with_reducible refine bE [4,2,13,13] (fun i:Nat=>[(13,I i)]) (fun _=>[]) (fun i=>i<=l.length/\ ∀ k,k<i->(l.getD k default==m.getD k default)=true) (fun i=>l.length-i) (0) ?_ ?_ ?_ ?_
 ·simp
 ·rfl
 ·exact at_
 rintro i r ⟨h1,h2⟩;by_cases hi:i<l.length
 ·repeat' first|refine aB ?_|refine aA ?_ ?_<;>intro hw<;>try omega|fail
  ·refine aZ ?_ rfl;rw[qi (p:=fun a b=>a==b) hi (by rw[<-Bool.not_eq_true];simp_all) ae]
  refine⟨i+1,?_,?_,by first|rfl|(simp[go_sem];done),da,at_⟩<;>(try dsimp only)
  ·exact⟨ae,cj h2 (by simp_all)⟩
  omega
 repeat' first|refine aB ?_|refine aA ?_ ?_<;>intro hw<;>try omega|fail
 refine aZ ?_ rfl;rw[nW (p:=fun a b=>a==b) qj (fun k hk=>h2 k ae)]
def AI(l m:List aU)(hl:l.length<=2^60)(hm:m.length<=2^60): aS aH 69 [iY l,iY m] (.bool (fR (fun a b=>a==b) l m)):=by
 simp only[iY];refine a_ FY ?_;intro Q aJ aK aL;repeat' first|refine aB ?_|refine aA ?_ ?_<;>intro hw<;>try omega|fail
 ·refine aZ ?_ rfl;rw[nU ae]
 have qj:l.length=m.length:=ae;with_reducible refine bE [4,2,11,15] (fun i:Nat=>[(5,I i)]) (fun _=>[]) (fun i=>i<=l.length/\ ∀ k,k<i->(l.getD k default==m.getD k default)=true) (fun i=>l.length-i) (0) ?_ ?_ ?_ ?_
 ·simp
 ·rfl
 ·exact at_
 rintro i r ⟨h1,h2⟩;by_cases hi:i<l.length
 ·repeat' first|refine aB ?_|refine aA ?_ ?_<;>intro hw<;>try omega|fail
  ·refine aZ ?_ rfl;rw[qi (p:=fun a b=>a==b) hi (by rw[<-Bool.not_eq_true];simp_all) ae]
  refine⟨i+1,?_,?_,by first|rfl|(simp[go_sem];done),da,at_⟩<;>(try dsimp only)
  ·exact⟨ae,cj h2 (by simp_all)⟩
  omega
 repeat' first|refine aB ?_|refine aA ?_ ?_<;>intro hw<;>try omega|fail
 refine aZ ?_ rfl;rw[nW (p:=fun a b=>a==b) qj (fun k hk=>h2 k ae)]
def xV(l m:List aX)(hl:l.length<=2^60)(hm:m.length<=2^60): aS aH 71 [bu l,bu m] (.bool (fR (fun a b=>a==b) l m)):=by
 simp only[bu];refine a_ JT ?_;intro Q aJ aK aL;repeat' first|refine aB ?_|refine aA ?_ ?_<;>intro hw<;>try omega|fail
 ·refine aZ ?_ rfl;rw[nU ae]
 have qj:l.length=m.length:=ae;with_reducible refine bE [4,2,11,15] (fun i:Nat=>[(5,I i)]) (fun _=>[]) (fun i=>i<=l.length/\ ∀ k,k<i->(l.getD k default==m.getD k default)=true) (fun i=>l.length-i) (0) ?_ ?_ ?_ ?_
 ·simp
 ·rfl
 ·exact at_
 rintro i r ⟨h1,h2⟩;by_cases hi:i<l.length
 ·have hb:=NW (l.getD i default) (m.getD i default);repeat' first|refine aB ?_|refine aA ?_ ?_<;>intro hw<;>try omega|fail
  ·refine aZ ?_ rfl;rw[qi (p:=fun a b=>a==b) hi (by rw[hb,<-Bool.not_eq_true];simp_all) ae]
  refine⟨i+1,?_,?_,by first|rfl|(simp[go_sem];done),da,at_⟩<;>(try dsimp only)
  ·exact⟨ae,cj h2 (by rw[hb];simp_all)⟩
  omega
 repeat' first|refine aB ?_|refine aA ?_ ?_<;>intro hw<;>try omega|fail
 refine aZ ?_ rfl;rw[nW (p:=fun a b=>a==b) qj (fun k hk=>h2 k ae)]
def Gs(c:cV)(k:Nat): Bool:=cg (c.order.getD k default) && decide ((c.order.getD k default).kind=c.kind) && decide (kW (fun x=>x==c.order.getD k default) c.order=k)
def lJ(c:cV)(asked:Bool): Bool :=
 if asked then(List.range c.order.length).all (Gs c) && decide (1<=c.order.length/\c.order.length<=8)else decide (c.order.length=0)
def wM(c:cV): Prop:=c.name.length<=2^62/\c.order.length<=2^60/\ ∀ v ∈ c.order,(-9223372036854775808<=v.n/\v.n<=9223372036854775807)/\v.s.length<=2^62
def Pu{c:cV}{i:Nat}(hi:i<c.order.length)(h:Gs c i=false): lJ c true=false:=by
 unfold lJ;rw[au rfl]
 have:(List.range c.order.length).all (Gs c)=false:=by
  rw[ig];exact⟨i,by simpa using hi,by simp[h]⟩
 rw[this];rfl
def YP{c:cV}(h:∀ k,k<c.order.length->Gs c k=true): lJ c true=decide (1<=c.order.length/\c.order.length<=8):=by
 unfold lJ;rw[au rfl]
 have:(List.range c.order.length).all (Gs c)=true:=by
  rw[bf];intro k hk;exact h k (by simpa using hk)
 rw[this];rfl
def Tj(c:cV)(b:Bool)(h:wM c): aS aH 181 [dQ c,.bool b] (.bool (lJ c b)):=by
 obtain⟨_,hl,hv⟩:=h;simp only[dQ,bu];cases b with
 | false =>
   have hS:lJ c false=decide (c.order.length=0):=rfl;rw[hS];refine a_ Ar ?_;intro Q aJ aK aL;repeat' first|refine aB ?_|refine aA ?_ ?_<;>intro hw<;>try omega|fail
   refine aZ ?_ rfl;refine aW AV.bool ?_;rw[c7];simp_all
 | true =>
   refine a_ Ar ?_;intro Q aJ aK aL;repeat' first|refine aB ?_|refine aA ?_ ?_<;>intro hw<;>try omega|fail
   with_reducible refine bE [4,3,16,24] (fun q:Nat × List aY=>[(16,I q.1)]) (fun q=> .cells [.str c.name,I c.kind,.aR false EV (c.order.map c8)]::q.2) (fun q=>q.1<=c.order.length/\ ∀ k,k<q.1->Gs c k=true) (fun q=>c.order.length-q.1) (0,[]) ?_ ?_ ?_ ?_
   ·simp
   ·rfl
   ·exact at_
   rintro⟨i,τ⟩ r ⟨h1,h2⟩;dsimp only at h1 h2;by_cases hi:i<c.order.length
   ·have hvi:=hv _ (bq hi);have hO:Gs c i=(cg (c.order.getD i default) && decide ((c.order.getD i default).kind=c.kind) && decide (kW (fun x=>x==c.order.getD i default) c.order=i)):=rfl;obtain⟨v,adT⟩:=cq (c.order.getD i default);rw[adT]at hvi hO;have c1:=l7 v.kind v.n v.s hvi.1.1 hvi.1.2;have c2:=rH c.order v hl;rw[show (⟨v.kind,v.n,v.s⟩:aX)=v from rfl]at c1;simp only[bu,c8]at c2;generalize kW (fun x=>x==v) c.order=ix at *;cases Tk:cg v;all_goals (rw[Tk]at c1 hO;simp only[ji,aP,if_false,if_true]at c1)
    ·repeat' first|refine cz adT ?_|refine aB ?_|refine aA ?_ ?_<;>intro hw<;>try omega|fail
     all_goals (refine aZ ?_ rfl;rw[Pu hi (by rw[hO];rfl)])
    repeat' first|refine cz adT ?_|refine aB ?_|refine aA ?_ ?_<;>intro hw<;>try omega|fail
    all_goals first
     |(refine aZ ?_ rfl;rw[Pu hi (by rw[hO];simp_all;done)])
     | (refine ⟨(i + 1, τ ++ [.cells [I v.kind, I v.n, .str v.s]]), ?_, ?_, by first | rfl | (simp [go_sem]; done), da, at_⟩ <;> (try dsimp only)
        ·exact⟨ae,cj h2 (by rw[hO];simp_all)⟩
        ·omega)
   repeat' first|refine aB ?_|refine aA ?_ ?_<;>intro hw<;>try omega|fail
   all_goals (refine aZ ?_ rfl;rw[YP (fun k hk=>h2 k ae)];refine aW AV.bool ?_;rw[c7];simp_all)
   all_goals (try omega)
def mA(l:List cV)(b:Bool): Int:=if lA l≠0 then lA l else if l.length=0\/(l.any fun c=> !(lJ c b))=true then 17 else 0
def Kc(c:cV)(b:Bool)(h:wM c): aS aH 180 [dQ c,.fh E1 (.bool b) 0] (.bool (!(lJ c b))):=by
 have h1:=Tj c b h;simp only[dQ,bu]at h1 |-;generalize lJ c b=o at *;refine a_ Fa ?_;intro Q aJ aK aL;repeat' first|refine aB ?_|refine aA ?_ ?_<;>intro hw<;>try omega|fail
 all_goals exact aZ rfl rfl
def Ct(l:List cV)(b:Bool)(hl:l.length<=2^60)(h:∀ c ∈ l,wM c): aS aH 138 [b_ l,.bool b] (I (mA l b)):=by
 have h1:=NR l (fun k hk=>(h _ (bq hk)).1);have h2:=xU 180 [.fh E1 (.bool b) 0] rfl (fun c=> !(lJ c b)) l (fun k hk=>Kc _ b (h _ (bq hk))) ae;have hS:mA l b=if lA l≠0 then lA l else if l.length=0\/(l.any fun c=> !(lJ c b))=true then 17 else 0:=rfl
 rw[hS];clear hS;simp only[b_]at h1 h2 |-;generalize (l.any fun c=> !(lJ c b))=an at *;generalize lA l=cs at *;refine a_ Ia ?_;intro Q aJ aK aL;repeat' first|refine aB ?_|refine IC h2 ?_|refine aA ?_ ?_<;>intro hw<;>try omega|fail
 all_goals (refine aZ ?_ rfl;refine aW I ?_;simp_all[<-List.length_eq_zero_iff])
 all_goals (try omega)
def mQ(t:Table): Bool :=
 if t.bW<1\/6<t.bW then false else if t.agg=0 then true
 else if t.bW≠5\/t.agg<1\/4<t.agg\/t.outs.length≠1 then false
 else decide (t.agg=4\/(t.outs.getD 0 default).kind=1\/(t.outs.getD 0 default).kind=2/\t.agg≠1)
def jV(t:Table): Int :=
 if iZ t.name=false then 13 else if mA t.ins false≠0 then mA t.ins false
 else if mA t.outs (decide (t.bW=3))≠0 then mA t.outs (decide (t.bW=3))
 else if mQ t=false then 17 else if 24<t.rules.length then 24 else 0
def j4(t:Table): Prop:=t.name.length<=2^30/\(t.ins.length<=2^30/\ ∀ c ∈ t.ins,wM c)/\(t.outs.length<=2^30/\ ∀ c ∈ t.outs,wM c) /\
 t.rules.length<=2^30/\ ∀ r ∈ t.rules,(r.cells.length<=2^30/\ ∀ s ∈ r.cells,s.length<=2^30)/\r.outs.length<=2^30/\ ∀ s ∈ r.outs,s.length<=2^30
def DP{l:List cV}(h:lA l=0){i:Nat}(hi:i<l.length): 1<=(l.getD i default).kind/\(l.getD i default).kind<=3:=by
 by_cases h6:6<l.length
 ·unfold lA at h;rw[if_pos h6]at h;omega
 by_cases hc:∀ k,k<l.length->wh l k=0
 ·have:=hc i hi;unfold wh at this;split at this
  ·omega
  split at this
  ·omega
  omega
 exfalso;unfold lA at h;rw[aj h6]at h;split at h
 ·rename_i j hj;have:=fJ hj;simp[h]at this
 rename_i hn;apply hc;intro k hk;have:=fL.1 hn k (by simpa using hk);simpa using this
def rI{l:List cV}{b:Bool}(h:mA l b=0): lA l=0/\0<l.length:=by
 unfold mA at h;split at h
 ·omega
 split at h
 ·omega
 rename_i h1 h2;refine⟨ae,?_⟩;rcases Nat.eq_zero_or_pos l.length with h3|h3
 ·exact absurd (.inl h3) h2
 exact h3
def QX(t:Table)(ho:lA t.outs=0): aS aH 139 [dS t] (.bool (mQ t)):=by
 have hk:=fun h=>DP ho (i:=0) h;have hS:mQ t=if t.bW<1\/6<t.bW then false else if t.agg=0 then true else if t.bW≠5\/t.agg<1\/4<t.agg\/t.outs.length≠1 then false else decide (t.agg=4\/(t.outs.getD 0 default).kind=1\/(t.outs.getD 0 default).kind=2/\t.agg≠1):=rfl
 rw[hS];clear hS ho;simp only[dS,gK,b_,eR];obtain⟨c,aiy⟩:=cq (t.outs.getD 0 default);rw[aiy]at hk |-;refine a_ JV ?_;intro Q aJ aK aL;repeat' first|refine cz aiy ?_|refine aB ?_|refine aA ?_ ?_<;>intro hw<;>try omega|fail
 all_goals (refine aZ ?_ rfl;refine aW AV.bool ?_;rw[c7];simp_all)
 all_goals (try omega)
def Tl(t:Table)(h:j4 t): aS aH 103 [dS t] (I (jV t)):=by
 obtain⟨h1,h2,h3,h4,_⟩:=h;have c1:=v7 t.name ae;have c2:=Ct t.ins false ae h2.2;have c3:=Ct t.outs (decide (t.bW=3)) ae h3.2;have c4:mA t.outs (decide (t.bW=3))=0->aS aH 139 [dS t] (.bool (mQ t)):=fun hb=>QX t (rI hb).1;have hS:jV t=if iZ t.name=false then 13 else if mA t.ins false≠0 then mA t.ins false else if mA t.outs (decide (t.bW=3))≠0 then mA t.outs (decide (t.bW=3))else if mQ t=false then 17 else if 24<t.rules.length then 24 else 0:=rfl
 rw[hS];clear hS;simp only[dS,gK,b_,eR]at c2 c3 c4 |-;generalize iZ t.name=n at *;generalize mA t.ins false=a at *;generalize mA t.outs (decide (t.bW=3))=b at *;generalize mQ t=p at *;by_cases hb:b=0
 ·have c5:=c4 hb;clear c4;refine a_ Aq ?_;intro Q aJ aK aL;repeat' first|refine aB ?_|refine aA ?_ ?_<;>intro hw<;>try omega|fail
  all_goals (refine aZ ?_ rfl;refine aW I ?_;simp_all)
  all_goals (try omega)
 clear c4;refine a_ Aq ?_;intro Q aJ aK aL;repeat' first|refine aB ?_|refine aA ?_ ?_<;>intro hw<;>try omega|fail
 all_goals first
  | exact bJ
  |(refine aZ ?_ rfl;refine aW I ?_;simp_all;done)
  |(refine aZ ?_ rfl;refine aW I ?_;simp_all;omega)
def aa9{T:List Tok}(hT:Bz T)(hl:T.length<=2^20)(p:Nat)(b:Bool): zz (iB T p b).t:=by
 have hx:∀ p b,jj (j0 T p b).x/\gV (j0 T p b).x<=2^30:=fun p b=>⟨(DL hT p b).1,by have:=(DL hT p b).2;omega⟩;have h0:jj x0/\gV x0<=2^30:=⟨s5,by simp[x0,gV,nF]⟩;have h1:∀ k p b,zz (t_ k (j0 T p b)).t:=fun k p b=>⟨hx p b,h0⟩;have h2:∀ lo,zz (Pq T p lo).t:=fun lo=>⟨hx _ _,hx _ _⟩;unfold iB;split
 ·exact h1 _ _ _
 split
 ·exact h1 _ _ _
 split
 ·exact h1 _ _ _
 split
 ·exact h1 _ _ _
 split
 ·exact h2 _
 split
 ·exact h2 _
 exact h1 _ _ _
def aa_{T:List Tok}(hT:Bz T)(hl:T.length<=2^20)(f:Nat): ∀(acc:List Test) (p:Nat) (b:Bool),(∀ t ∈ acc,zz t)->(∀ t ∈ (s4 T f acc p b).ts,zz t)/\(s4 T f acc p b).ts.length<=acc.length+f:=by
 induction f with
 | zero=>intro acc p b h;exact⟨h,bg _⟩
 | succ f ih =>
   intro acc p b h
   have h2:∀ t ∈ acc++[(iB T p b).t],zz t:=fun t ht=>by
    rcases List.mem_append.1 ht with ht|ht
    ·exact h t ht
    simp only[gj,fO,or_false]at ht;subst ht;exact aa9 hT hl p b
   rw[wK];split
   ·have:=ih _ ((iB T p b).p+1) (iB T p b).bad h2;rw[aC,aO,bt]at this;exact⟨this.1,ae⟩
   exact⟨h2,by rw[aC,aO,bt];omega⟩
def Me(s:aU): pR (mz s).1:=by
 have h:pR ⟨false,sI (dU s).1,(lf (dU s).1).ts⟩:=by
  have hf:=(sj s).1;have:=aa_ (HL s) ae ((dU s).1.length+1) [] (WH (dU s).1) false (fun t ht=>by cases ht);unfold lf pR;rw[WK];exact⟨by have:=this.2;simp only[List.length_nil]at this;dsimp only;omega,this.1⟩
 have h0:pR c0:=⟨Nat.zero_le _,fun t ht=>by cases ht⟩;have h1:pR J8:=⟨Nat.zero_le _,fun t ht=>by cases ht⟩;unfold mz;repeat' split
 all_goals first|exact h0|exact h1|exact h
def AJ(s:aU): jj (jT s).1/\gV (jT s).1<=2^30:=by
 have h:jj (jo (dU s).1 0 0).1/\gV (jo (dU s).1 0 0).1<=2^30:=by
  have hf:=(sj s).1;have:=J6 (dU s).1 0 0;exact⟨S_ (HL s) _ _,ae⟩
 have h0:jj x0/\gV x0<=2^30:=⟨s5,by simp[x0,gV,nF]⟩;unfold jT;repeat' split
 all_goals first|exact h0|exact h
def Tm(t:Table)(k:Nat)(s:aU): Cell × Int:=((mz s).1,if(mz s).2.2=0 then BA t.ins (t.ins.getD k default).kind (mz s).1 else(mz s).2.2)
def yA(t:Table)(k:Nat)(s:aU): Expr × Int:=((jT s).1,if(jT s).2.2≠0 then(jT s).2.2 else if(jU t.ins (jT s).1).2=0/\cK (jU t.ins (jT s).1).1 (t.outs.getD k default).kind=false then 14 else(jU t.ins (jT s).1).2)
def YQ(t:Table)(k:Nat)(s:aU)(ht:t.ins.length<=2^30)(hk:k<t.ins.length)(hs:s.length<=2^30): aS aH 140 [dS t,I k,.str s] (.bU [er (Tm t k s).1,I (Tm t k s).2]):=by
 have c1:=YG s hs;have c2:=YH t.ins ae (t.ins.getD k default).kind (mz s).1 (aa0 s);have hS:Tm t k s=((mz s).1,if(mz s).2.2=0 then BA t.ins (t.ins.getD k default).kind (mz s).1 else(mz s).2.2):=rfl;rw[hS];clear hS;dsimp only;obtain⟨cc,iL⟩:∃ c,t.ins.getD k default=c:=⟨_,rfl⟩;rw[iL]at c2 |-;generalize BA t.ins cc.kind (mz s).1=ty at *;generalize mz s=P at *;obtain⟨c,n,e⟩:=P;dsimp only at c1 c2 |-;simp only[eC3]at c1;obtain⟨C,hC⟩:=cq (er c);have hC2:C = .agg [.bool c.any,.bool c.neg,.aR false ES (c.tests.map dV)]:=by rw[<-hC];rfl
 simp only[er,jr,dS,gK,b_,eR]at c1 c2 |-;refine a_ QE ?_;intro Q aJ aK aL;repeat' first|refine cz iL ?_|refine aB ?_|refine aA ?_ ?_<;>intro hw<;>try omega|fail
 all_goals (refine cn ?_ aQ;simp_all)
def Vi(t:Table)(k:Nat)(s:aU)(ht:t.ins.length<=2^30)(ho:t.outs.length<=2^30)(hk:k<t.outs.length)(hs:s.length<=2^30): aS aH 141 [dS t,I k,.str s] (.bU [br (yA t k s).1,I (yA t k s).2]):=by
 have c1:=SV s hs;have hp:=AJ s;have c2:=zu t.ins ae (jT s).1 hp.1 (by have:=hp.2;omega);have c3:=oM (jU t.ins (jT s).1).1 (t.outs.getD k default).kind;have hS:yA t k s=((jT s).1,if(jT s).2.2≠0 then(jT s).2.2 else if(jU t.ins (jT s).1).2=0/\cK (jU t.ins (jT s).1).1 (t.outs.getD k default).kind=false then 14 else(jU t.ins (jT s).1).2):=rfl;rw[hS];clear hS hp;dsimp only;obtain⟨cc,iL⟩:∃ c,t.outs.getD k default=c:=⟨_,rfl⟩;rw[iL]at c3 |-;generalize cK (jU t.ins (jT s).1).1 cc.kind=fi at *;generalize jU t.ins (jT s).1=ki at *;generalize jT s=P at *;obtain⟨x,n,e⟩:=P;dsimp only at c1 c2 |-;simp only[Pj]at c1;rw[bM]at c1 c2 |-;simp only[ez,dS,gK,b_,eR]at c1 c2 |-;refine a_ Nw ?_;intro Q aJ aK aL;repeat' first|refine cz iL ?_|refine aB ?_|refine aA ?_ ?_<;>intro hw<;>try omega|fail
 all_goals (refine cn ?_ aQ;simp_all)
def rJ(t:Table)(r:ia)(k:Nat): Cell × Int:=Tm t k (r.cells.getD k default)
def lG(t:Table)(r:ia)(k:Nat): Expr × Int:=yA t k (r.outs.getD k default)
def mR(t:Table)(r:ia)(n:Nat): List Cell:=(List.range n).map fun k=>(rJ t r k).1
def pS(t:Table)(r:ia)(n:Nat): List Expr:=(List.range n).map fun k=>(lG t r k).1
def l9(t:Table)(r:ia): kL × Int × Int :=
 if r.cells.length≠t.ins.length\/r.outs.length≠t.outs.length then(⟨[],[]⟩,0,17)
 else match(List.range r.cells.length).find? (fun k=>(rJ t r k).2 != 0)with
 | some k=>(⟨mR t r k,[]⟩,k,(rJ t r k).2)
 | none => match (List.range r.outs.length).find? (fun k => (lG t r k).2 != 0) with
   | some k=>(⟨mR t r r.cells.length,pS t r k⟩,t.ins.length+k,(lG t r k).2)
   | none=>(⟨mR t r r.cells.length,pS t r r.outs.length⟩,0,0)
def Mf(t:Table)(r:ia)(n:Nat): mR t r (n+1)=mR t r n++[(rJ t r n).1]:=by simp[mR,List.range_succ]
def Pv(t:Table)(r:ia)(n:Nat): pS t r (n+1)=pS t r n++[(lG t r n).1]:=by simp[pS,List.range_succ]
def AK(t:Table)(r:ia)(n:Nat): (mR t r n).length=n:=by simp[mR]
def Ke(t:Table)(r:ia)(n:Nat): (pS t r n).length=n:=by simp[pS]
def wj{n i:Nat}{p:Nat->Bool}(hi:i<n)(h:∀ k,k<i->p k=false)(hp:p i=true): (List.range n).find? p=some i:=by
 have:=yO (p:=p) (l:=List.range n) (i:=i) (by simpa using hi) (fun k hk=>by rw[oz ae];exact h k hk) (by rw[oz hi];exact hp);rwa[oz hi]at this
def oB{n:Nat}{p:Nat->Bool}(h:∀ k,k<n->p k=false): (List.range n).find? p=none :=
 wc (fun k hk=>by rw[List.length_range]at hk;rw[oz hk];exact h k hk)
def Pw{t:Table}{r:ia}(h:r.cells.length≠t.ins.length\/r.outs.length≠t.outs.length): l9 t r=(⟨[],[]⟩,0,17):=by
 unfold l9;rw[if_pos h]
def Px{t:Table}{r:ia}(h1:r.cells.length=t.ins.length)(h2:r.outs.length=t.outs.length){k:Nat}(hk:k<r.cells.length)(h:∀ j,j<k->(rJ t r j).2=0)(he:(rJ t r k).2≠0): l9 t r=((⟨mR t r k,[]⟩:kL),(k:Int),(rJ t r k).2):=by
 unfold l9;rw[aj ae,wj (i:=k) hk (fun j hj=>by simp[h j hj]) (by simp[he])]
def YR{t:Table}{r:ia}(h1:r.cells.length=t.ins.length)(h2:r.outs.length=t.outs.length)(hc:∀ j,j<r.cells.length->(rJ t r j).2=0){k:Nat}(hk:k<r.outs.length)(h:∀ j,j<k->(lG t r j).2=0)(he:(lG t r k).2≠0): l9 t r=((⟨mR t r r.cells.length,pS t r k⟩:kL),(t.ins.length:Int)+k,(lG t r k).2):=by
 unfold l9;rw[aj ae,oB (fun j hj=>by simp[hc j hj])];dsimp only;rw[wj (i:=k) hk (fun j hj=>by simp[h j hj]) (by simp[he])]
def Tn{t:Table}{r:ia}(h1:r.cells.length=t.ins.length)(h2:r.outs.length=t.outs.length)(hc:∀ j,j<r.cells.length->(rJ t r j).2=0)(h:∀ j,j<r.outs.length->(lG t r j).2=0): l9 t r=(⟨mR t r r.cells.length,pS t r r.outs.length⟩,0,0):=by
 unfold l9;rw[aj ae,oB (fun j hj=>by simp[hc j hj])];dsimp only;rw[oB (fun j hj=>by simp[h j hj])]
def eLn(r:kL × Int × Int): AV:= .bU [mM r.1,I r.2.1,I r.2.2]
def wk{σ : ai}{a b:AV}{cs:List Cell}{xs:List Expr}{n m:Int}(ha:View σ a (sX cs))(hb:View σ b (ez xs)): cY σ [.agg [a,b],I n,I m] [mM ⟨cs,xs⟩,I n,I m] :=
 oS (View.nS (.cons ha (.cons hb (.nil _))))
def Vj(t:Table)(r:ia)(ht:t.ins.length<=2^30)(ho:t.outs.length<=2^30)(ht0:0<t.ins.length)(hr:(r.cells.length<=2^30/\ ∀ s ∈ r.cells,s.length<=2^30)/\r.outs.length<=2^30/\ ∀ s ∈ r.outs,s.length<=2^30): aS aH 104 [dS t,fY r] (eLn (l9 t r)):=by
 obtain⟨⟨hr1,EK⟩,hr3,hr4⟩:=hr;obtain⟨E,hE⟩:=cq (eLn (l9 t r));rw[hE];have ca:=fun k (h1:k<t.ins.length) (h2:k<r.cells.length)=>YQ t k (r.cells.getD k default) ht h1 (EK _ (bq h2));have ce:=fun k (h1:k<t.outs.length) (h2:k<r.outs.length)=>Vi t k (r.outs.getD k default) ht ho h1 (hr4 _ (bq h2));simp only[show ∀ k,Tm t k (r.cells.getD k default)=rJ t r k from fun _=>rfl]at ca;simp only[show ∀ k,yA t k (r.outs.getD k default)=lG t r k from fun _=>rfl]at ce;simp only[dS,gK,b_,eR,fY,iY]at ca ce |-;by_cases hb:r.cells.length≠t.ins.length\/r.outs.length≠t.outs.length
 ·refine a_ B9 ?_;intro Q aJ aK aL;repeat' first|refine aB ?_|refine aA ?_ ?_<;>intro hw<;>try omega|fail
  all_goals first
   | exact bJ
   |(rw[<-hE,Pw hb];exact gW (wk (.aV _) (.aV _)))
 have q1:r.cells.length=t.ins.length:=ae;have q2:r.outs.length=t.outs.length:=ae;clear hb;refine a_ B9 ?_;intro Q aJ aK aL;repeat' first|refine aB ?_|refine aA ?_ ?_<;>intro hw<;>try omega|fail
 all_goals first|exact bJ|skip
 with_reducible refine bE [5,6,35,24] (fun q:Nat × ai=>[(35,I q.1)]) (fun q=>q.2) (fun q=>q.1<=r.cells.length/\(∀ k,k<q.1->(rJ t r k).2=0)/\(q.1=0/\q.2=[.cells [.str t.name,.aR false EC (t.ins.map dQ),.aR false EC (t.outs.map dQ),I t.bW,I t.agg,.aR false ER (t.rules.map fY)],.cells [.aR false E1 (r.cells.map fH),.aR false E1 (r.outs.map fH)],.cells [.aV,.aV]]\/0<q.1/\ ∃ c1 τ,q.2 = .cells [.str t.name,.aR false EC (t.ins.map dQ),.aR false EC (t.outs.map dQ),I t.bW,I t.agg,.aR false ER (t.rules.map fY)]:: .cells [.aR false E1 (r.cells.map fH),.aR false E1 (r.outs.map fH)]:: .cells [.own EC 4 q.1 0 q.1,.aV]::c1:: .vec EC ((mR t r q.1).map er):: τ)) (fun q=>r.cells.length-q.1) (0,_) ⟨ew _,fun k hk=>by omega,.inl ⟨rfl,rfl⟩⟩ rfl ?_ ?_
 ·exact at_
 rintro⟨k,S⟩ rr ⟨h1,h2,h3⟩;dsimp only at h1 h2 h3;rcases h3 with⟨rfl,rfl⟩|⟨hk,c1,τ,rfl⟩
 ·have c:=ca 0 ae ae;obtain⟨a,ha⟩:=cq (rJ t r 0);rw[ha]at c;have xq:=fun he=>Px q1 q2 (k:=0) ae h2 he;rw[ha]at xq;have lR:=Mf t r 0;rw[ha]at lR;simp only[er,jr]at c;repeat' first|refine aB ?_|refine eU c ?_|refine aA ?_ ?_<;>intro hw<;>try omega|fail
  ·rw[<-hE,xq (by assumption)];exact gW (wk (.aV _) (.aV _))
  refine⟨(1,[.cells [.str t.name,.aR false EC (t.ins.map dQ),.aR false EC (t.outs.map dQ),I t.bW,I t.agg,.aR false ER (t.rules.map fY)],.cells [.aR false E1 (r.cells.map fH),.aR false E1 (r.outs.map fH)],.cells [.own EC 4 1 0 1,.aV],.cells [.bool a.1.any,.bool a.1.neg,.aR false ES (a.1.tests.map dV)],.vec EC [.agg [.bool a.1.any,.bool a.1.neg,.aR false ES (a.1.tests.map dV)]]]),?_,?_,?_,da,at_⟩<;>(try dsimp only)
  ·refine⟨ae,fun j hj=>?_,.inr ⟨ae,.cells [.bool a.1.any,.bool a.1.neg,.aR false ES (a.1.tests.map dV)],[],?_⟩⟩
   ·obtain rfl:j=0:=ae;rw[ha];assumption
   rw[lR];rfl
  ·omega
  all_goals rfl
 by_cases x4:k<r.cells.length
 ·have c:=ca k ae ae;have xq:=fun he=>Px q1 q2 (k:=k) ae h2 he;have lR:=Mf t r k;obtain⟨a,ha⟩:=cq (rJ t r k);rw[ha]at c xq lR;have i_:=AK t r k;have iA:=fun he=>cj (q:=fun j=>(rJ t r j).2=0) h2 he;obtain⟨L,hL⟩:=cq (mR t r k);rw[hL]at i_ lR;simp only[hL]at xq |-;simp only[er,jr]at c;repeat' first|refine cz i_ ?_|refine aB ?_|refine eU c ?_|refine aA ?_ ?_<;>intro hw<;>try omega|fail
  ·rw[<-hE,xq (by assumption)];exact gW (wk (View.vec rfl (by simp[i_]) (by simp[i_]) (ur _)) (.aV _))
  refine⟨(k+1,.cells [.str t.name,.aR false EC (t.ins.map dQ),.aR false EC (t.outs.map dQ),I t.bW,I t.agg,.aR false ER (t.rules.map fY)]:: .cells [.aR false E1 (r.cells.map fH),.aR false E1 (r.outs.map fH)]:: .cells [.own EC 4 (k+1) 0 (k+1),.aV]::c1:: .vec EC (L.map er++[.agg [.bool a.1.any,.bool a.1.neg,.aR false ES (a.1.tests.map dV)]])::(τ++[.cells [.bool a.1.any,.bool a.1.neg,.aR false ES (a.1.tests.map dV)]])),?_,?_,?_,da,at_⟩<;>(try dsimp only)
  ·refine⟨ae,iA (by rw[ha];assumption),.inr ⟨ae,c1,τ++[.cells [.bool a.1.any,.bool a.1.neg,.aR false ES (a.1.tests.map dV)]],?_⟩⟩;rw[lR,fI];rfl
  ·omega
  all_goals rfl
 have hkn:k=r.cells.length:=ae;subst hkn;have i_:=AK t r r.cells.length;have hok:=fun h=>Tn q1 q2 h2 h;have hte:=fun k (hk:k<r.outs.length) h he=>YR q1 q2 h2 (k:=k) hk h he;obtain⟨L,hL⟩:=cq (mR t r r.cells.length);rw[hL]at i_;simp only[hL]at hok hte |-;repeat' first|refine aB ?_|refine aA ?_ ?_<;>intro hw<;>try omega|fail
 with_reducible refine bE [5,2,11,4,62,28] (fun q:Nat × ai=>[(62,I q.1)]) (fun q=>q.2) (fun q=>q.1<=r.outs.length/\(∀ k,k<q.1->(lG t r k).2=0)/\(q.1=0/\q.2 = .cells [.str t.name,.aR false EC (t.ins.map dQ),.aR false EC (t.outs.map dQ),I t.bW,I t.agg,.aR false ER (t.rules.map fY)]:: .cells [.aR false E1 (r.cells.map fH),.aR false E1 (r.outs.map fH)]:: .cells [.own EC 4 r.cells.length 0 r.cells.length,.aV]::c1:: .vec EC (L.map er):: τ\/0<q.1/\ ∃ p ρ,q.2 = .cells [.str t.name,.aR false EC (t.ins.map dQ),.aR false EC (t.outs.map dQ),I t.bW,I t.agg,.aR false ER (t.rules.map fY)]:: .cells [.aR false E1 (r.cells.map fH),.aR false E1 (r.outs.map fH)]:: .cells [.own EC 4 r.cells.length 0 r.cells.length,.own EX (p+1+1+1+1+1) q.1 0 q.1]::c1:: .vec EC (L.map er):: ρ/\ ρ[p]? = some (.vec EX ((pS t r q.1).map br)))) (fun q=>r.outs.length-q.1) (0,_) ⟨ew _,fun k hk=>by omega,.inl ⟨rfl,rfl⟩⟩ rfl ?_ ?_
 ·exact at_
 rintro⟨m,S⟩ rr ⟨g1,g2,g3⟩;dsimp only at g1 g2 g3;rcases g3 with⟨rfl,rfl⟩|⟨hm,p,ρ,rfl,hk⟩
 ·by_cases hml:0<r.outs.length
  ·have c:=ce 0 ae ae;have xq:=fun he=>hte 0 hml g2 he;have lR:=Pv t r 0;obtain⟨a,ha⟩:=cq (lG t r 0);rw[ha]at c xq lR;rw[bM]at c;try simp only[ez]at c
   repeat' first|refine cz i_ ?_|refine aB ?_|refine eU c ?_|refine aA ?_ ?_<;>intro hw<;>try omega|fail
   ·rw[<-hE,xq (by assumption)];refine gW (wk (View.vec rfl (by simp[i_]) (by simp[i_]) (ur _)) (.aV _))
   refine⟨(1,.cells [.str t.name,.aR false EC (t.ins.map dQ),.aR false EC (t.outs.map dQ),I t.bW,I t.agg,.aR false ER (t.rules.map fY)]:: .cells [.aR false E1 (r.cells.map fH),.aR false E1 (r.outs.map fH)]:: .cells [.own EC 4 r.cells.length 0 r.cells.length,.own EX (τ.length+1+1+1+1+1+1) 1 0 1]::c1:: .vec EC (L.map er)::(τ++[.cells [I a.1.op,I a.1.v.kind,I a.1.v.n,.str a.1.v.s,.str a.1.s,.aR false EX (a.1.l.map br)]]++[.vec EX [.agg [I a.1.op,I a.1.v.kind,I a.1.v.n,.str a.1.v.s,.str a.1.s,.aR false EX (a.1.l.map br)]]])),?_,?_,?_,da,at_⟩<;>(try dsimp only)
   ·refine⟨ae,fun j hj=>?_,.inr ⟨ae,τ.length+1,_,rfl,?_⟩⟩
    ·obtain rfl:j=0:=ae;rw[ha];assumption
    rw[lR,show ∀ x,[x]=[]++[x] from fun _=>rfl];simp[pS,bM,ez]
   ·omega
   all_goals first|rfl|(simp[go_sem];done)
  repeat' first|refine cz i_ ?_|refine aB ?_|refine aA ?_ ?_<;>intro hw<;>try omega|fail
  rw[<-hE,hok (fun j hj=>by omega)];have h0:r.outs.length=0:=ae;rw[h0];exact gW (wk (View.vec rfl (by simp[i_]) (by simp[i_]) (ur _)) (.aV _))
 have hlt:=(aE.1 hk).1;have Kf:=Ke t r m;have kI:=fun d:aY=>(aI (l₁:= ρ) (l₂:=[d]) hlt).trans hk;by_cases hml:m<r.outs.length
 ·have c:=ce m ae ae;have xq:=fun he=>hte m hml g2 he;have lR:=Pv t r m;have iA:=fun he=>cj (q:=fun j=>(lG t r j).2=0) g2 he;have VZ:=fun(d w:aY)=>iN (s:= ρ) (t:=[d]) p w hlt;obtain⟨a,ha⟩:=cq (lG t r m);rw[ha]at c xq lR;obtain⟨X,hX⟩:=cq (pS t r m);rw[hX]at Kf lR hk xq;simp only[hX]at kI;rw[bM]at c;try simp only[ez]at c
  repeat' first|refine cz (zC i_ Kf hk (zA kI VZ)) ?_|refine aB ?_|refine eU c ?_|refine aA ?_ ?_<;>intro hw<;>try omega|fail
  ·rw[<-hE,xq (by assumption)];refine gW (wk (View.vec rfl (by simp[i_]) (by simp[i_]) (ur _)) (View.vec (kI _) (by simp[Kf]) (by simp[Kf]) (SB _)))
  refine⟨(m+1,.cells [.str t.name,.aR false EC (t.ins.map dQ),.aR false EC (t.outs.map dQ),I t.bW,I t.agg,.aR false ER (t.rules.map fY)]:: .cells [.aR false E1 (r.cells.map fH),.aR false E1 (r.outs.map fH)]:: .cells [.own EC 4 r.cells.length 0 r.cells.length,.own EX (p+1+1+1+1+1) (m+1) 0 (m+1)]::c1:: .vec EC (L.map er)::(ρ.set p (.vec EX (X.map br++[.agg [I a.1.op,I a.1.v.kind,I a.1.v.n,.str a.1.v.s,.str a.1.s,.aR false EX (a.1.l.map br)]]))++[.cells [I a.1.op,I a.1.v.kind,I a.1.v.n,.str a.1.v.s,.str a.1.s,.aR false EX (a.1.l.map br)]])),?_,?_,?_,da,at_⟩<;>(try dsimp only)
  ·refine⟨ae,iA (by rw[ha];assumption),.inr ⟨ae,p,_,rfl,?_⟩⟩;rw[lR,fI,aI (by simpa using hlt),bw (by simpa using hlt)];simp[bM,ez]
  ·omega
  all_goals first|rfl|(simp[go_sem];done)
 obtain rfl:m=r.outs.length:=ae;repeat' first|refine cz (zC i_ Kf hk kI) ?_|refine aB ?_|refine aA ?_ ?_<;>intro hw<;>try omega|fail
 rw[<-hE,hok g2];exact gW (wk (View.vec rfl (by simp[i_]) (by simp[i_]) (ur _)) (View.vec hk (by simp[Kf]) (by simp[Kf]) (SB _)))
def lg(t:Table)(k:Nat): kL × Int × Int:=l9 t (t.rules.getD k default)
def nq(t:Table)(n:Nat): List kL:=(List.range n).map fun k=>(lg t k).1
def Gt: Ready:=⟨⟨[],[],[],0,0,[]⟩,[]⟩
def eC(t:Table): Ready × Int × Int × Int :=
 if jV t≠0 then(Gt,-1,0,jV t)
 else match(List.range t.rules.length).find? (fun k=>(lg t k).2.2 != 0)with
 | some k=>(Gt,k,(lg t k).2.1,(lg t k).2.2)
 | none=>(⟨t,nq t t.rules.length⟩,0,0,0)
def eR4(r:Ready × Int × Int × Int): AV:= .bU [lH r.1,I r.2.1,I r.2.2.1,I r.2.2.2]
def YS(t:Table)(n:Nat): nq t (n+1)=nq t n++[(lg t n).1]:=by simp[nq,List.range_succ]
def xu(t:Table)(n:Nat): (nq t n).length=n:=by simp[nq]
def BE{t:Table}(h:jV t≠0): eC t=(Gt,(-1:Int),(0:Int),jV t):=by unfold eC;rw[if_pos h]
def YT{t:Table}(h0:jV t=0){k:Nat}(hk:k<t.rules.length)(h:∀ j,j<k->(lg t j).2.2=0)(he:(lg t k).2.2≠0): eC t=(Gt,(k:Int),(lg t k).2.1,(lg t k).2.2):=by
 unfold eC;rw[aj ae,wj (i:=k) hk (fun j hj=>by simp[h j hj]) (by simp[he])]
def Tp{t:Table}(h0:jV t=0)(h:∀ j,j<t.rules.length->(lg t j).2.2=0): eC t=((⟨t,nq t t.rules.length⟩:Ready),(0:Int),(0:Int),(0:Int)):=by
 unfold eC;rw[aj ae,oB (fun j hj=>by simp[h j hj])]
def YU{t:Table}(h:jV t=0): 0<t.ins.length:=by
 unfold jV at h;split at h
 ·omega
 split at h
 ·omega
 rename_i h1 h2;exact(rI (by omega:mA t.ins false=0)).2
def uY{σ : ai}{a E:AV}{n m k:Int}(h:View σ a E): cY σ [a,I n,I m,I k] [E,I n,I m,I k]:= .cons h (.cons (.refl _ rfl) (.cons (.refl _ rfl) (.cons (.refl _ rfl) (.nil _))))
def NX(σ : ai): View σ (.agg [.str [],.aV,.aV,I 0,I 0,.aV,.aV]) (lH Gt) :=
 View.nS (.cons (.refl _ rfl) (.cons (.aV _) (.cons (.aV _) (.cons (.refl _ rfl) (.cons (.refl _ rfl) (.cons (.aV _) (.cons (.aV _) (.nil _))))))))
def IP(t:Table)(h:j4 t): aS aH 64 [dS t] (eR4 (eC t)):=by
 have cf:=Tl t h;obtain⟨E,hE⟩:=cq (eR4 (eC t));rw[hE];have hl:=fun(h0:0<t.ins.length) k (hk:k<t.rules.length)=>Vj t (t.rules.getD k default) h.2.1.1 h.2.2.1.1 h0 (h.2.2.2.2 _ (bq hk));have amH:=h.2.2.2.1;simp only[dS,gK,b_,eR]at cf hl |-;by_cases hf:jV t≠0
 ·have hm:=BE hf;obtain⟨f,Ix⟩:=cq (jV t);rw[Ix]at cf hm hf;refine a_ B8 ?_;intro Q aJ aK aL;repeat' first|refine aB ?_|refine aA ?_ ?_<;>intro hw<;>try omega|fail
  all_goals first
   | exact bJ
   |(rw[<-hE,hm];exact gW (uY (NX _)))
 have Es:jV t=0:=ae;have hi0:0<t.ins.length:=YU Es;rw[Es]at cf
 replace hl:=hl hi0
 clear hf;refine a_ B8 ?_;intro Q aJ aK aL;repeat' first|refine aB ?_|refine aA ?_ ?_<;>intro hw<;>try omega|fail
 all_goals first|exact bJ|skip
 with_reducible refine bE [3,3,8,5,24,25] (fun q:Nat × ai=>[(24,I q.1)]) (fun q=>q.2) (fun q=>q.1<=t.rules.length/\(∀ k,k<q.1->(lg t k).2.2=0)/\(q.1=0/\q.2=[.cells [.str t.name,.aR false EC (t.ins.map dQ),.aR false EC (t.outs.map dQ),I t.bW,I t.agg,.aR false ER (t.rules.map fY)],.cells [.str [],.aV,.aV,I 0,I 0,.aV,.aV],.cells [.str t.name,.aR false EC (t.ins.map dQ),.aR false EC (t.outs.map dQ),I t.bW,I t.agg,.aR false ER (t.rules.map fY),.aV]]\/0<q.1/\ ∃ b1 b2 τ,q.2 = .cells [.str t.name,.aR false EC (t.ins.map dQ),.aR false EC (t.outs.map dQ),I t.bW,I t.agg,.aR false ER (t.rules.map fY)]:: .cells [.str [],.aV,.aV,I 0,I 0,.aV,.aV]:: .cells [.str t.name,.aR false EC (t.ins.map dQ),.aR false EC (t.outs.map dQ),I t.bW,I t.agg,.aR false ER (t.rules.map fY),.own ER 5 q.1 0 q.1]::b1::b2:: .vec ER ((nq t q.1).map mM):: τ)) (fun q=>t.rules.length-q.1) (0,_) ⟨ew _,fun k hk=>by omega,.inl ⟨rfl,rfl⟩⟩ rfl ?_ ?_
 ·exact at_
 rintro⟨k,S⟩ rr ⟨h1,h2,h3⟩;dsimp only at h1 h2 h3;by_cases x4:k<t.rules.length
 ·have c:=hl k x4;have xq:=fun he=>YT Es x4 h2 he;have lR:=YS t k;have i_:=xu t k;have iA:=fun he=>cj (q:=fun j=>(lg t j).2.2=0) h2 he;have hlr:lg t k=l9 t (t.rules.getD k default):=rfl;obtain⟨a,ha⟩:=cq (lg t k);rw[ha]at xq lR iA hlr;rw[<-hlr]at c;obtain⟨ru,WN⟩:=cq (t.rules.getD k default);rw[WN]at c;clear hlr;simp only[eLn,mM,sX,ez,fY,iY]at c;rcases h3 with⟨rfl,rfl⟩|⟨hk,b1,b2,τ,rfl⟩
  ·repeat' first|refine cz WN ?_|refine aB ?_|refine eU c ?_|refine aA ?_ ?_<;>intro hw<;>try omega|fail
   ·rw[<-hE,xq (by assumption)];exact gW (uY (NX _))
   refine⟨(1,[.cells [.str t.name,.aR false EC (t.ins.map dQ),.aR false EC (t.outs.map dQ),I t.bW,I t.agg,.aR false ER (t.rules.map fY)],.cells [.str [],.aV,.aV,I 0,I 0,.aV,.aV],.cells [.str t.name,.aR false EC (t.ins.map dQ),.aR false EC (t.outs.map dQ),I t.bW,I t.agg,.aR false ER (t.rules.map fY),.own ER 5 1 0 1],.cells [.aR false E1 (ru.cells.map fH),.aR false E1 (ru.outs.map fH)],.cells [.aR false EC (a.1.cells.map er),.aR false EX (a.1.outs.map br)],.vec ER [.agg [.aR false EC (a.1.cells.map er),.aR false EX (a.1.outs.map br)]]]),?_,?_,?_,da,at_⟩<;>(try dsimp only)
   ·refine⟨ae,iA (by assumption),.inr ⟨ae,.cells [.aR false E1 (ru.cells.map fH),.aR false E1 (ru.outs.map fH)],.cells [.aR false EC (a.1.cells.map er),.aR false EX (a.1.outs.map br)],[],?_⟩⟩;rw[lR];rfl
   ·omega
   all_goals first|rfl|(simp[go_sem];done)
  obtain⟨L,hL⟩:=cq (nq t k);rw[hL]at i_ lR;simp only[hL];repeat' first|refine cz (zA WN i_) ?_|refine aB ?_|refine eU c ?_|refine aA ?_ ?_<;>intro hw<;>try omega|fail
  ·rw[<-hE,xq (by assumption)];exact gW (uY (NX _))
  refine⟨(k+1,.cells [.str t.name,.aR false EC (t.ins.map dQ),.aR false EC (t.outs.map dQ),I t.bW,I t.agg,.aR false ER (t.rules.map fY)]:: .cells [.str [],.aV,.aV,I 0,I 0,.aV,.aV]:: .cells [.str t.name,.aR false EC (t.ins.map dQ),.aR false EC (t.outs.map dQ),I t.bW,I t.agg,.aR false ER (t.rules.map fY),.own ER 5 (k+1) 0 (k+1)]::b1::b2:: .vec ER (L.map mM++[.agg [.aR false EC (a.1.cells.map er),.aR false EX (a.1.outs.map br)]])::(τ++[.cells [.aR false E1 (ru.cells.map fH),.aR false E1 (ru.outs.map fH)]]++[.cells [.aR false EC (a.1.cells.map er),.aR false EX (a.1.outs.map br)]])),?_,?_,?_,da,at_⟩<;>(try dsimp only)
  ·refine⟨ae,iA (by assumption),.inr ⟨ae,b1,b2,τ++[.cells [.aR false E1 (ru.cells.map fH),.aR false E1 (ru.outs.map fH)]]++[.cells [.aR false EC (a.1.cells.map er),.aR false EX (a.1.outs.map br)]],?_⟩⟩;rw[lR,fI];(first|rfl|(simp[mM,sX,ez];done))
  ·omega
  all_goals first|rfl|(simp[go_sem];done)
 obtain rfl:k=t.rules.length:=ae;have hok:=Tp Es h2;rcases h3 with⟨h0,rfl⟩|⟨hk,b1,b2,τ,rfl⟩
 ·repeat' first|refine aB ?_|refine aA ?_ ?_<;>intro hw<;>try omega|fail
  rw[<-hE,hok,h0];exact gW (uY (View.nS (.cons (.refl _ rfl) (.cons (.refl _ (kf _)) (.cons (.refl _ (kf _)) (.cons (.refl _ rfl) (.cons (.refl _ rfl) (.cons (.refl _ (r_ _)) (.cons (.aV _) (.nil _))))))))))
 have i_:=xu t t.rules.length;obtain⟨L,hL⟩:=cq (nq t t.rules.length);rw[hL]at i_ hok;simp only[hL];repeat' first|refine cz i_ ?_|refine aB ?_|refine aA ?_ ?_<;>intro hw<;>try omega|fail
 rw[<-hE,hok];exact gW (uY (View.nS (.cons (.refl _ rfl) (.cons (.refl _ (kf _)) (.cons (.refl _ (kf _)) (.cons (.refl _ rfl) (.cons (.refl _ rfl) (.cons (.refl _ (r_ _)) (.cons (View.vec rfl (by simp[i_]) (by simp[i_]) (Pa _)) (.nil _))))))))))
