/- Part. -/
import Derived.Test.YtcjcnfcedihckaaGreatDoorW24
set_option linter.all false
set_option maxHeartbeats 1000000
namespace Go.Proofs.YtcjcnfcedihckaaGreatDoor
open Go.AM
set_option maxRecDepth 4000
def lV {P : Program} {f : FuncId} {args : List AV} {r : AV} (hf : Has P f)
    (h : ∀ (g : aJ) (w : World) (σ : ae) (vs : Array Value), Rel g w σ -> args.length = vs.size -> (∀ i, i < args.length -> VR g w (args.getD i .undef) (vs.getD i Go.undef)) ->
      ∃ v,(∀ g' w',VR g' w' r v)/\Calls P f vs w fun e w'=>e = .returned v/\w'.os=w.os/\w'.tape=w.tape/\w'.output=w.output/\w.heap.size<=w'.heap.size/\ ∀ b,b<w.heap.size->w'.heap[b]? = w.heap[b]?):aP P f args r:=by
 intro σ;refine⟨hf,fun g w vs hR hl hv=>?_⟩;obtain⟨v,h1,h2⟩:=h g w σ vs hR hl hv;refine h2.mono ?_;rintro e w' ⟨rfl,k1,k2,k3,k4,k5⟩;obtain⟨r1,r2⟩:=hR.sD k4 k1 k2 k3 k5;exact⟨.ret r,_,σ,r1,r2,h1 _ _,rfl,rfl⟩
def VR.GI{g:aJ}{w:World}(s:aI): VR g w (.str s) (.string ⟨s.toArray⟩):=VR.str s
def MX{vs:Array Value}(h:1=vs.size): vs = #[vs.getD 0 Go.undef]:=by
 apply Array.ext
 ·simp[<-h]
 ·intro i h1 h2;simp at h2;subst h2;simp[<-h]
def GJ{vs:Array Value}(h:2=vs.size): vs = #[vs.getD 0 Go.undef,vs.getD 1 Go.undef]:=by
 apply Array.ext
 ·simp[<-h]
 ·intro i h1 h2;simp at h2;obtain rfl|rfl:i=0\/i=1:=by omega
  ·simp[<-h]
  ·simp[<-h]
def strconv_Itoa(n:Int)(h0 : -9223372036854775808<=n)(h1:n<=9223372036854775807): aP aK 41 [I n] (.str (Lib.itoa n)):=by
 refine lV ⟨_,Tryz.func41,by kernel_rfl,by kernel_rfl⟩ fun g w σ vs hR hl hv=>?_;have h2:=hv 0 (by simp);rw[MX hl];generalize vs.getD 0 Go.undef=v at h2;simp only[aT]at h2;cases h2;refine⟨_,fun g' w'=>VR.GI (Lib.itoa n),(Tryz.strconv_Itoa n h0 h1 w hR.glob.2.1).mono ?_⟩;rintro e w' ⟨rfl,k,os,rfl⟩;refine⟨rfl,rfl,rfl,rfl,by simp[Sort.grow,World.drewN],fun b hb=>?_⟩;simp only[Sort.grow,World.drewN];rw[dS (by simpa using hb)]
def strconv_FormatBool(b:Bool): aP aK 169 [.bool b] (.str (if b then qV else ou)):=by
 refine lV ⟨_,Tryz.func169,by kernel_rfl,by kernel_rfl⟩ fun g w σ vs hR hl hv=>?_;have h2:=hv 0 (by simp);rw[MX hl];generalize vs.getD 0 Go.undef=v at h2;simp only[aT]at h2;cases h2;have e:Lib.formatBool b=if b then qV else ou:=by cases b<;>decide
 refine⟨_,fun g' w'=>VR.GI (if b then qV else ou),(Tryz.strconv_FormatBool b w).mono ?_⟩;rintro e w' ⟨rfl,rfl⟩;refine⟨by rw[e],rfl,rfl,rfl,Nat.le_refl _,fun _ _=>rfl⟩
def strings_Join(l:List aI)(sep:aI)(hl:l.length<=2 ^ 40)(hj:(Lib.join l sep).length<=2 ^ 40): aP aK 90 [bX l,.str sep] (.str (Lib.join l sep)):=by
 refine lV ⟨_,Tryz.func90,by kernel_rfl,by kernel_rfl⟩ fun g w σ vs hR hlen hv=>?_;have h2:=hv 0 (by simp);have h3:=hv 1 (by simp);rw[GJ hlen];generalize vs.getD 0 Go.undef=v at h2;generalize vs.getD 1 Go.undef=u at h3;simp only[aT,cq]at h2 h3;cases h3;simp only[bX]at h2;generalize hxs:l.map cj=xs at h2;have below:∀ w':World,RowKit.Below w.heap.size w w'->w'.os=w.os/\w'.tape=w.tape/\w'.output=w.output/\w.heap.size<=w'.heap.size/\ ∀ b,b<w.heap.size->w'.heap[b]? = w.heap[b]?:=fun w' h=>⟨h.os,h.tape,h.output,h.size,h.block⟩;cases h2 with
 | iB f el b cap hf =>
   obtain rfl:l=[]:=by cases l<;>simp at hxs;rfl
   refine⟨_,fun g' w'=>VR.GI (Lib.join [] sep),(Tryz.strings_Join_none b cap ⟨sep.toArray⟩ w).mono ?_⟩;rintro e w' ⟨rfl,rfl⟩;refine⟨rfl,rfl,rfl,rfl,Nat.le_refl _,fun _ _=>rfl⟩
 | aO f el xs b off cap hi hf hx ft hc h =>
   subst hxs;have MC:=hR.lt b hi
   have hm:(l.map fun s=>(⟨s.toArray⟩:ByteArray)).map (·.data.toList)=l:=by
    rw[List.map_map];conv=>rhs;rw[<-List.map_id l]
    rfl
   have hcells:∀ (j:Nat) x,(l.map fun s=>(⟨s.toArray⟩:ByteArray))[j]? = some x->w.cell? ⟨b,off+j,none⟩=some (.string x):=fun j x hx'=>by
    obtain⟨hj',rfl⟩:=aN.1 hx';have p_:j<l.length:=by simpa using hj'
    have c1:=hc j 0 (by simpa using p_) (by decide);have c2:=h j 0 (by simpa using p_) (by decide);have e1:off+(j*(⟨false,1⟩:El).sz+0)=off+j:=by show off+(j*1+0)=off+j;omega
    rw[e1]at c1 c2;obtain⟨v,hv⟩:=fc.1 c1;have e2:((l.map cj).getD j .undef).cell 0 = .str (l[j]):=by simp[p_,cj,AV.cell]
    rw[e2]at c2;simp only[dw,hv,bu]at c2;cases c2;rw[hv];simp
   have:=Tryz.strings_Join b off cap (l.map fun s=>(⟨s.toArray⟩:ByteArray)) ⟨sep.toArray⟩ w hcells MC (by simp;omega) (by simpa using hx) (by rw[hm];show(Lib.join l sep).length<=_;omega);rw[hm]at this;simp only[bY]at this ⊢;refine⟨_,fun g' w'=>VR.GI (Lib.join l sep),this.mono ?_⟩;rintro e w' ⟨rfl,hb⟩;exact⟨rfl,below w' hb⟩
def gV{m:Nat}(h:10<=m): Lib.decDigits m=Lib.decDigits (m / 10)++[UInt8.ofNat (48+m % 10)]:=by
 conv=>lhs;rw[Lib.decDigits]
 rw[dif_neg (by omega)]
def pU{m:Nat}(h:m<10): Lib.decDigits m=[UInt8.ofNat (48+m)]:=by rw[Lib.decDigits,dif_pos h]
def MY(k:Nat): ∀ u:Nat,u<10 ^ (k+1)->(Lib.decDigits u).length<=k+1:=by
 induction k with
 | zero=>intro u h;rw[pU (by omega)];simp
 | succ k ih =>
   intro u h;by_cases h9:u<10
   ·rw[pU h9];simp
   ·rw[gV (by omega),aA];have:=ih (u / 10) (by rw[Nat.pow_succ]at h;omega);simp only[List.length_cons,List.length_nil];omega
def gW(c:UInt8): aI:=if c.toNat=34\/c.toNat=92 then [92,c]else [c]
def jZ(s:aI): aI:=34::(s.flatMap gW++[34])
def RZ{s:aI}{i:Nat}(h:i<s.length): (s.take (i+1)).flatMap gW=(s.take i).flatMap gW++gW (s.getD i 0):=by
 rw[List.take_succ_eq_append_getElem h,List.flatMap_append];simp[h]
def J2(s:aI): (s.flatMap gW).length<=2*s.length:=by
 induction s with
 | nil=>simp
 | cons c r ih =>
   rw[da,aA,List.length_cons];have:(gW c).length<=2:=by unfold gW;split<;>simp
   omega
def eN(v:eu): aI:=if v.kind=1 then Lib.itoa v.n else if v.kind=2 then jZ v.s else if v.kind=3 then(if v.n=1 then qV else ou)else GB
def qh: aI:=[105,102,32]
def ov: aI:=[32,116,104,101,110,32]
def uM: aI:=[32,101,108,115,101,32]
def j0(w:Int × aI)(lvl:Int): aI:=if w.1<lvl then 40::(w.2++[41])else w.2
def nr(op:Int)(v:eu)(s:aI)(ws:List (Int × aI)): aI :=
 if op=1 then eN v else if op=2 then s
 else if op=3 then 45::j0 (ws.getD 0 default) 6
 else if op=16 then qh++j0 (ws.getD 0 default) 0++ov++j0 (ws.getD 1 default) 0++uM++j0 (ws.getD 2 default) 0
 else j0 (ws.getD 0 default) (if(dF op).level=3 then 4 else(dF op).level)++[32]++(dF op).sign++[32]++j0 (ws.getD 1 default) ((dF op).level+1)
mutual
def dJ: Expr->aI
 | .mk op v s l=>nr op v s (pz l)
def pz: List Expr->List (Int × aI)
 | []=>[]
 | x::r=>(ek x.op,dJ x)::pz r
end
def j3(x:Expr)(lvl:Int): aI:=j0 (ek x.op,dJ x) lvl
def Fi(n:Int)(h0 : -9223372036854775808<=n)(h1:n<=9223372036854775807): (Lib.itoa n).length<=21:=by
 unfold Lib.itoa;split
 ·have:=MY 19 n.natAbs (by omega);rw[List.length_cons];omega
 ·have:=MY 19 n.toNat (by omega);omega
def xS(v:eu)(h0 : -9223372036854775808<=v.n)(h1:v.n<=9223372036854775807)(hr:bT v=true): (eN v).length<=82:=by
 unfold eN;split
 ·have:=Fi v.n h0 h1;omega
 split
 ·rename_i h1 h2;unfold bT at hr;rw[if_neg (by omega),if_neg (by omega),if_pos h2]at hr;simp only[gk,aq,decide_eq_true_eq]at hr;have:=J2 v.s;simp only[jZ,List.length_cons,aA,List.length_nil];omega
 split
 ·split<;>simp[qV,ou]
 ·simp[GB]
def GK(w:Int × aI)(lvl:Int): (j0 w lvl).length<=w.2.length+2:=by
 unfold j0;split<;>simp
def MZ(op:Int): (dF op).sign.length<=3:=by
 unfold dF;cases h:jq.find? (fun b=>b.op==op)with
 | none=>simp
 | some b =>
   have:=fL h;simp only[jq,List.mem_cons,List.not_mem_nil,or_false]at this;rcases this with rfl|rfl|rfl|rfl|rfl|rfl|rfl|rfl|rfl|rfl|rfl|rfl<;>simp
def qL {op : Int} {v : eu} {s : aI} {l : List Expr} (h : c8 (.mk op v s l) = true) :
    (op=1/\l=[]/\s=[]/\bT v=true/\(v.kind≠1\/0<=v.n))\/(op=2/\l=[]/\v=v0/\eV s=true)\/(op=3/\v=v0/\s=[]/\ ∃ a,l=[a]/\c8 a=true) \/
    (op=16/\v=v0/\s=[]/\ ∃ a b c,l=[a,b,c]/\c8 a=true/\c8 b=true/\c8 c=true) \/
    (4<=op/\op<=15/\v=v0/\s=[]/\1<=(dF op).level/\(dF op).level<=5/\ek op=(dF op).level/\(dF op).op=op/\(dF op) ∈ jq/\ ∃ a b,l=[a,b]/\c8 a=true/\c8 b=true):=by
 simp only[c8,aq,decide_eq_true_eq]at h;obtain⟨h1,h2⟩:=h;by_cases o1:op=1
 ·left;rw[if_pos o1]at h2;simp only[aq,decide_eq_true_eq,c_]at h2;have:jH op=0:=by unfold jH;rw[if_pos (.inl o1)]
  exact⟨o1,List.length_eq_zero_iff.1 (by omega),h2.1.1,h2.1.2,h2.2⟩
 rw[if_neg o1]at h2;by_cases o2:op=2
 ·right;left;rw[if_pos o2]at h2;simp only[aq,decide_eq_true_eq]at h2;have:jH op=0:=by unfold jH;rw[if_pos (.inr o2)]
  exact⟨o2,List.length_eq_zero_iff.1 (by omega),h2.1,h2.2⟩
 rw[if_neg o2]at h2;simp only[aq,decide_eq_true_eq]at h2;obtain⟨⟨h3,h4⟩,h5⟩:=h2;by_cases o3:op=3
 ·right;right;left;have:jH op=1:=by unfold jH;rw[if_neg (by omega),if_pos o3]
  match l,h1,h5 with
  | [a],_,h5=>simp only[qH,fP]at h5;exact⟨o3,h3,h4,a,rfl,h5⟩
  | [],h1,_=>simp at h1;omega
  | _::_::_,h1,_=>simp at h1;omega
 by_cases o4:op=16
 ·right;right;right;left;have:jH op=3:=by unfold jH;rw[if_neg (by omega),if_neg o3,if_pos o4]
  match l,h1,h5 with
  | [a,b,c],_,h5=>simp only[qH,fP,aq]at h5;exact⟨o4,h3,h4,a,b,c,rfl,h5.1,h5.2.1,h5.2.2⟩
  | [],h1,_=>simp at h1;omega
  | [_],h1,_=>simp at h1;omega
  | [_,_],h1,_=>simp at h1;omega
  | _::_::_::_::_,h1,_=>simp at h1;omega
 ·right;right;right;right;have hc:jH op=if 0<(dF op).level then 2 else -1:=by unfold jH;rw[if_neg (by omega),if_neg o3,if_neg o4]
  have hlv:0<(dF op).level:=by
   by_cases h:0<(dF op).level
   ·exact h
   ·rw[if_neg h]at hc;omega
  rw[if_pos hlv]at hc;have R0:ek op=(dF op).level:=by unfold ek;rw[if_neg o4,if_neg o3,if_neg (by omega)]
  have hf:(dF op).op=op/\dF op ∈ jq:=by
   unfold dF at hlv ⊢;cases hq:jq.find? (fun b=>b.op==op)with
   | none=>rw[hq]at hlv;simp at hlv
   | some b =>
     have h1:=dN hq;exact⟨by simpa using h1,fL hq⟩
  have hb:4<=op/\op<=15/\(dF op).level<=5:=by
   obtain⟨q1,q2⟩:=hf;generalize dF op=b at q1 q2;simp only[jq,List.mem_cons,List.not_mem_nil,or_false]at q2;rcases q2 with rfl|rfl|rfl|rfl|rfl|rfl|rfl|rfl|rfl|rfl|rfl|rfl<;>(dsimp only at q1 ⊢;omega)
  match l,h1,h5 with
  | [a,b],_,h5=>simp only[qH,fP,aq]at h5;exact⟨hb.1,hb.2.1,h3,h4,by omega,hb.2.2,R0,hf.1,hf.2,a,b,rfl,h5.1,h5.2⟩
  | [],h1,_=>simp at h1;omega
  | [_],h1,_=>simp at h1;omega
  | _::_::_::_,h1,_=>simp at h1;omega
def A1{x:Expr}(h:c8 x=true): 0<=ek x.op:=by
 obtain⟨op,v,s,l⟩:=x;rcases qL h with⟨rfl,_⟩|⟨rfl,_⟩|⟨rfl,_⟩|⟨rfl,_⟩|⟨_,_,_,_,h1,_,h2,_⟩
 ·show 0<=ek 1;decide
 ·show 0<=ek 2;decide
 ·show 0<=ek 3;decide
 ·show 0<=ek 16;decide
 ·show 0<=ek op;omega
def Fj{x:Expr}{lv:Int}(h:¬ ek x.op<lv): j3 x lv=dJ x:=by unfold j3 j0;exact if_neg h
def M0{x:Expr}{lv:Int}(h:ek x.op<lv): j3 x lv=40::(dJ x++[41]):=by unfold j3 j0;exact if_pos h
def UG{s:aI}(h:eV s=true): s.length<=16:=by
 simp only[eV,aq,decide_eq_true_eq]at h;exact h.1.2
def R4(x:Expr): c8 x=true->jl x->(dJ x).length<=110*fN x:=by
 induction x using Expr.ind with
 | h op v s l ih =>
   intro hr hx;simp only[jl]at hx;obtain⟨_,_,hv1,Uh,hl⟩:=hx
   have key:∀ y ∈ l,c8 y=true-> ∀ lvl,(j0 (ek y.op,dJ y) lvl).length<=110*fN y+2:=fun y hy hry lvl=>by
    have:=ih y hy hry (Ij hl hy);have:=GK (ek y.op,dJ y) lvl;dsimp only at this;omega
   have hsg:=MZ op;rcases qL hr with⟨rfl,rfl,rfl,h1,_⟩|⟨rfl,rfl,rfl,h1⟩|⟨rfl,rfl,rfl,a,rfl,ha⟩|⟨rfl,rfl,rfl,a,b,c,rfl,ha,hb,hc⟩|⟨o1,o2,rfl,rfl,_,_,_,_,_,a,b,rfl,ha,hb⟩
   ·have:=xS v hv1 Uh h1;simp only[dJ,nr,if_true,fN];omega
   ·have:=UG h1;simp[dJ,nr,fN];omega
   ·have:=key a (by simp) ha 6;simp[dJ,pz,nr,fN,lZ];omega
   ·have k1:=key a (by simp) ha 0;have k2:=key b (by simp) hb 0;have k3:=key c (by simp) hc 0;simp[dJ,pz,nr,fN,lZ,qh,ov,uM];omega
   ·have k1:=key a (by simp) ha (if(dF op).level=3 then 4 else(dF op).level);have k2:=key b (by simp) hb ((dF op).level+1)
    have:dJ (.mk op v0 [] [a,b])=j0 (ek a.op,dJ a) (if(dF op).level=3 then 4 else(dF op).level)++[32]++(dF op).sign++[32]++j0 (ek b.op,dJ b) ((dF op).level+1):=by
     simp only[dJ,pz,nr];rw[if_neg (by omega),if_neg (by omega),if_neg (by omega),if_neg (by omega)];rfl
    rw[this];simp only[aA,List.length_cons,List.length_nil,fN,lZ];omega
def oJ(x:Expr): Bool:=decide (200<(dJ x).length)
def oT(x:Expr): aI × Int:=if c8 x=false then([],2)else if 12<kW x then([],12)else if oJ x=true then([],5)else (dJ x,0)
def Xj{x:Expr}(hr:c8 x=true): j3 x 0=dJ x:=by
 have:=A1 hr;exact Fj (by omega)
abbrev TB: TypeId:=56
abbrev TU: TypeId:=5
def mh(T:TypeId)(σ : ae)(l:Nat)(s:aI): Prop:= ∃ p v,σ[l]? = some (.bW (some T) [p,v])/\(p = .iM\/p = .ref l 0) /\
 ((s=[]/\v = .au)\/(s≠[]/\ ∃ k,k≠l/\v = .own E1 k s.length 0 s.length/\σ[k]? = some (.cy (some TU) E1 (qE s))))
def iY(l:Nat)(σ σ':ae): Prop:=σ.length<=σ'.length/\ ∀ j o,σ[j]? = some o->j≠l->(∀ T xs,o≠ .cy (some T) E1 xs)->σ'[j]? = some o
def iY.refl(l:Nat)(σ : ae): iY l σ σ:=⟨Nat.le_refl _,fun _ _ h _ _=>h⟩
def ef{σ : ae}{l:Nat}{o:aY}(h : σ[l]? = some o): l < σ.length:=(aN.1 h).1
def Xk : ∃ fn, Tryz.prog.funcs[92]? = some fn ∧ (fn.name == "runtime.NumGoroutine") = false ∧ fn.body.isNone = true ∧ Extern.findNext fn = none ∧ Extern.find fn = some Extern.AbiNoEscape.same :=
 ⟨_,Tryz.func92,by kernel_rfl,by kernel_rfl,by kernel_rfl,by kernel_rfl⟩
def Cn(T:TypeId): Prop:=liesAt Tryz.prog Tryz.prog.depth T (2 / Tryz.prog.cellsOf T) 0 TB 1=true
def tS: Cn TB:=by unfold Cn;kernel_rfl
def Builder_copyCheck {T : TypeId} (hT : Cn T) (σ : ae) (l : Nat) (p v : AV) (h : σ[l]? = some (.bW (some T) [p, v])) (hp : p = .iM \/ p = .ref l 0) :
    cN aK 46 [.ref l 0] σ fun o σ'=>o = .ret (.bO [])/\σ' = σ.set l (.bW (some T) [.ref l 0,v]):=by
 have tE : σ.set l (.bW (some T) [.ref l 0,v]) = σ\/p = .iM:=by
  rcases hp with rfl|rfl
  ·exact .inr rfl
  ·left;apply List.ext_getElem?;intro k;by_cases e:k=l
   ·subst e;rw[List.getElem?_set_self (ef h)];exact h.symm
   ·rw[List.getElem?_set_ne (Ne.symm e)]
 refine tJ.go ?_;unfold eP;intro Q aF aG aH;rcases hp with rfl|rfl
 ·repeat' first|simp (disch:=omega) only[go_sem,aF,aG,aH,h]|refine aE ?_|refine ac_ h (by simp) ?_|refine Zz Xk ?_|refine ada h hT ?_|refine aD ?_ ?_<;>intro hw<;>try omega|fail
  exact⟨by trivial,by trivial⟩
 ·rcases tE with tE|tE
  ·repeat' first|simp (disch:=omega) only[go_sem,aF,aG,aH,h]|refine aE ?_|refine adb h ?_|refine aD ?_ ?_<;>intro hw<;>try omega|fail
   exact⟨rfl,tE.symm⟩
  ·cases tE
def Builder_Len{T:TypeId}(σ : ae)(l:Nat)(s:aI)(h:mh T σ l s): cN aK 159 [.ref l 0] σ fun o σ'=>o = .ret (I s.length)/\σ' = σ:=by
 obtain⟨p,v,h1,h2,h3⟩:=h;refine yl.go ?_;unfold eP;intro Q aF aG aH;rcases h3 with⟨rfl,rfl⟩|⟨h3,k,h4,rfl,h5⟩
 ·repeat' first|simp (disch:=omega) only[go_sem,aF,aG,aH,h1]|refine aE ?_|refine aD ?_ ?_<;>intro hw<;>try omega|fail
  exact⟨rfl,trivial⟩
 ·repeat' first|simp (disch:=omega) only[go_sem,aF,aG,aH,h1]|refine aE ?_|refine aD ?_ ?_<;>intro hw<;>try omega|fail
  exact⟨rfl,trivial⟩
def Builder_WriteString {T : TypeId} (hT : Cn T) (σ : ae) (l : Nat) (s t : aI) (h : mh T σ l s) (hlen : s.length + t.length <= 2 ^ 38) :
    cN aK 21 [.ref l 0,.str t] σ fun o σ'=>o = .ret (.bO [I t.length,.iT])/\mh T σ' l (s++t)/\iY l σ σ':=by
 obtain⟨p,v,h1,h2,h3⟩:=h;have hl:=ef h1;refine sF.go ?_;unfold eP;intro Q aF aG aH;have fX:=Builder_copyCheck hT σ l p v h1 h2;have qM:(σ.set l (.bW (some T) [.ref l 0,v]))[l]? = some (.bW (some T) [.ref l 0,v]):=by simp[hl]
 have beside:∀ (o:aY),iY l σ (σ.set l o):=fun o=>⟨by simp,fun j o' hj hne _=>by rw[List.getElem?_set_ne (Ne.symm hne)];exact hj⟩;rcases h3 with⟨rfl,rfl⟩|⟨h3,k,h4,rfl,h5⟩
 ·cases t with
  | nil =>
    repeat' first|simp (disch:=omega) only[go_sem,aF,aG,aH,qM]|refine aE ?_|with_reducible refine cz fX ?_|refine aD ?_ ?_<;>intro hw<;>try omega|fail
    rintro o s ⟨rfl,rfl⟩;repeat' first|simp (disch:=omega) only[go_sem,aF,aG,aH,qM,bA]|refine aE ?_|refine aD ?_ ?_<;>intro hw<;>try omega|fail
    exact⟨rfl,⟨_,_,qM,.inr rfl,.inl ⟨rfl,rfl⟩⟩,beside _⟩
  | cons c t =>
    simp only[List.length_nil,List.length_cons]at hlen;repeat' first|simp (disch:=omega) only[go_sem,aF,aG,aH,qM]|refine aE ?_|with_reducible refine cz fX ?_|refine aD ?_ ?_<;>intro hw<;>try omega|fail
    rintro o s ⟨rfl,rfl⟩
    have Ae:∀ o,((σ.set l (.bW (some T) [.ref l 0,.au]))++[o])[l]? = some (.bW (some T) [.ref l 0,.au]):=fun o=>by
     rw[aC (by simpa using hl)];exact qM
    repeat' first|simp (disch:=omega) only[go_sem,aF,aG,aH,qM,Ae,bA]|refine aE ?_|refine aD ?_ ?_<;>intro hw<;>try omega|fail
    rw[List.set_append_left _ _ (by simpa using hl),bA];refine⟨rfl,⟨.ref l 0,.own E1 σ.length (t.length+1) 0 (t.length+1),?_,.inr rfl,.inr ⟨by simp,σ.length,by omega,by simp,?_⟩⟩,by simp,fun j o' hj hne _=>?_⟩
    ·rw[aC (by simpa using hl)];simp[hl]
    ·rw[bE (by simp)];simp
    ·rw[aC (by simpa using ef hj),List.getElem?_set_ne (Ne.symm hne)];exact hj
 ·have hk:=ef h5;have J3:∀ o,(σ.set l o)[k]? = some (.cy (some TU) E1 (qE s)):=fun o=>by rw[List.getElem?_set_ne (Ne.symm h4)];exact h5
  repeat' first|simp (disch:=omega) only[go_sem,aF,aG,aH,qM]|refine aE ?_|with_reducible refine cz fX ?_|refine aD ?_ ?_<;>intro hw<;>try omega|fail
  rintro o s' ⟨rfl,rfl⟩
  have Ae:∀ o,((σ.set l (.bW (some T) [.ref l 0,.own E1 k s.length 0 s.length])).set k o)[l]? = some (.bW (some T) [.ref l 0,.own E1 k s.length 0 s.length]):=fun o=>by
   rw[List.getElem?_set_ne h4];exact qM
  repeat' first|simp (disch:=omega) only[go_sem,aF,aG,aH,qM,Ae,J3,bA]|refine aE ?_|refine aD ?_ ?_<;>intro hw<;>try omega|fail
  refine⟨rfl,⟨.ref l 0,.own E1 k (s.length+t.length) 0 (s.length+t.length),?_,.inr rfl,.inr ⟨by simp[h3],k,h4,by simp,?_⟩⟩,by simp,fun j o' hj hne wT=>?_⟩
  ·simp[hl]
  ·rw[List.getElem?_set_ne (Ne.symm h4)];simp[hk]
  ·have BI:j≠k:=fun e=>by subst e;rw[h5]at hj;cases hj;exact wT _ _ rfl
   rw[List.getElem?_set_ne (Ne.symm hne),List.getElem?_set_ne (Ne.symm BI),List.getElem?_set_ne (Ne.symm hne)];exact hj
def Builder_String{T:TypeId}(σ : ae)(l:Nat)(s:aI)(h:mh T σ l s)(hs:s.length<=2 ^ 62): cN aK 23 [.ref l 0] σ fun o σ'=>o = .ret (.str s)/\iY l σ σ':=by
 obtain⟨p,v,h1,h2,h3⟩:=h;refine vM.go ?_;unfold eP;intro Q aF aG aH;rcases h3 with⟨rfl,rfl⟩|⟨h3,k,h4,rfl,h5⟩
 ·repeat' first|simp (disch:=omega) only[go_sem,aF,aG,aH,h1]|refine aE ?_|refine aD ?_ ?_<;>intro hw<;>try omega|fail
  exact⟨rfl,.refl _ _⟩
 ·have h0:0<s.length:=List.length_pos_iff.2 h3;repeat' first|simp (disch:=omega) only[go_sem,aF,aG,aH,h1]|refine aE ?_|refine ade h5 (by simp) h0 ?_|refine abq s h5 (by simp) rfl h3 hs rfl ?_|refine aD ?_ ?_<;>intro hw<;>try omega|fail
  refine⟨rfl,by simp,fun j o' hj hne wT=>?_⟩;have BI:j≠k:=fun e=>by subst e;rw[h5]at hj;cases hj;exact wT _ _ rfl
  rw[List.getElem?_set_ne (Ne.symm BI)];exact hj
def mh.push{T:TypeId}{σ : ae}{l:Nat}{s:aI}(h:mh T σ l s)(ρ : ae): mh T (σ++ ρ) l s:=by
 obtain⟨p,v,h1,h2,h3⟩:=h;refine⟨p,v,by rw[aC (ef h1)];exact h1,h2,?_⟩;rcases h3 with h3|⟨h3,k,h4,h5,h6⟩
 ·exact .inl h3
 ·exact .inr ⟨h3,k,h4,h5,by rw[aC (ef h6)];exact h6⟩
def mh.lt{T:TypeId}{σ : ae}{l:Nat}{s:aI}(h:mh T σ l s): l < σ.length:=by
 obtain⟨p,v,h1,_⟩:=h;exact ef h1
def mh.Xl{T:TypeId}{σ : ae}{l q:Nat}{s u:aI}{i:Nat}(h:mh T σ l s)(hq : σ[q]? = some (.iR u i))(o:aY): mh T (σ.set q o) l s:=by
 obtain⟨p,v,h1,h2,h3⟩:=h;have n1:q≠l:=fun e=>by subst e;rw[hq]at h1;cases h1
 refine⟨p,v,by rw[List.getElem?_set_ne n1];exact h1,h2,?_⟩;rcases h3 with h3|⟨h3,k,h4,h5,h6⟩
 ·exact .inl h3
 ·have n2:q≠k:=fun e=>by subst e;rw[hq]at h6;cases h6
  exact .inr ⟨h3,k,h4,h5,by rw[List.getElem?_set_ne n2];exact h6⟩
def iY.trans{l:Nat}{σ1 σ2 σ3:ae}(h:iY l σ1 σ2)(k:iY l σ2 σ3): iY l σ1 σ3 :=
 ⟨cB h.1 k.1,fun j o h1 h2 h3=>k.2 j o (h.2 j o h1 h2 h3) h2 h3⟩
def iY.pV{l:Nat}{σ ρ σ2:ae}(h:iY l (σ++ ρ) σ2): iY l σ σ2 :=
 ⟨cB (by simp) h.1,fun j o h1 h2 h3=>h.2 j o (by rw[aC (ef h1)];exact h1) h2 h3⟩
def UH{n:Int}(h:0<=n)(h':n<=4294967295): fE .u32 n=n:=by
 show IntKind.wrap .u32 n=n;simp[IntKind.wrap,IntKind.bits,IntKind.signed];omega
def Builder_WriteByte {T : TypeId} (hT : Cn T) (σ : ae) (l : Nat) (s : aI) (c : UInt8) (k : Int) (hk : k = c.toNat) (h : mh T σ l s) (hlen : s.length <= 2 ^ 38) :
    cN aK 22 [.ref l 0,.int .u8 k] σ fun o σ'=>o = .ret .iT/\mh T σ' l (s++[c])/\iY l σ σ':=by
 subst hk;obtain⟨p,v,h1,h2,h3⟩:=h;have hl:=ef h1;refine tI.go ?_;unfold eP;intro Q aF aG aH;have fX:=Builder_copyCheck hT σ l p v h1 h2;have qM:(σ.set l (.bW (some T) [.ref l 0,v]))[l]? = some (.bW (some T) [.ref l 0,v]):=by simp[hl]
 rcases h3 with⟨rfl,rfl⟩|⟨h3,k,h4,rfl,h5⟩
 ·repeat' first|simp (disch:=omega) only[go_sem,aF,aG,aH,qM]|refine aE ?_|with_reducible refine cz fX ?_|refine aD ?_ ?_<;>intro hw<;>try omega|fail
  rintro o s' ⟨rfl,rfl⟩
  have Ae:∀ o,((σ.set l (.bW (some T) [.ref l 0,.au]))++[o])[l]? = some (.bW (some T) [.ref l 0,.au]):=fun o=>by
   rw[aC (by simpa using hl)];exact qM
  repeat' first|simp (disch:=omega) only[go_sem,aF,aG,aH,qM,Ae,bA]|refine aE ?_|refine aD ?_ ?_<;>intro hw<;>try omega|fail
  rw[List.set_append_left _ _ (by simpa using hl),bA];refine⟨rfl,⟨.ref l 0,.own E1 σ.length 1 0 1,?_,.inr rfl,.inr ⟨by simp,σ.length,by omega,by simp,?_⟩⟩,by simp,fun j o' hj hne _=>?_⟩
  ·rw[aC (by simpa using hl)];simp[hl]
  ·rw[bE (by simp)];simp
  ·rw[aC (by simpa using ef hj),List.getElem?_set_ne (Ne.symm hne)];exact hj
 ·have hk:=ef h5;have J3:∀ o,(σ.set l o)[k]? = some (.cy (some TU) E1 (qE s)):=fun o=>by rw[List.getElem?_set_ne (Ne.symm h4)];exact h5
  repeat' first|simp (disch:=omega) only[go_sem,aF,aG,aH,qM]|refine aE ?_|with_reducible refine cz fX ?_|refine aD ?_ ?_<;>intro hw<;>try omega|fail
  rintro o s' ⟨rfl,rfl⟩
  have Ae:∀ o,((σ.set l (.bW (some T) [.ref l 0,.own E1 k s.length 0 s.length])).set k o)[l]? = some (.bW (some T) [.ref l 0,.own E1 k s.length 0 s.length]):=fun o=>by
   rw[List.getElem?_set_ne h4];exact qM
  repeat' first|simp (disch:=omega) only[go_sem,aF,aG,aH,qM,Ae,J3,bA]|refine aE ?_|refine aD ?_ ?_<;>intro hw<;>try omega|fail
  refine⟨rfl,⟨.ref l 0,.own E1 k (s.length+1) 0 (s.length+1),?_,.inr rfl,.inr ⟨by simp,k,h4,by simp,?_⟩⟩,by simp,fun j o' hj hne wT=>?_⟩
  ·simp[hl]
  ·rw[List.getElem?_set_ne (Ne.symm h4)];simp[hk]
  ·have BI:j≠k:=fun e=>by subst e;rw[h5]at hj;cases hj;exact wT _ _ rfl
   rw[List.getElem?_set_ne (Ne.symm hne),List.getElem?_set_ne (Ne.symm BI),List.getElem?_set_ne (Ne.symm hne)];exact hj
def Iu (σ : ae) (k : Nat) (s : aI) (c : UInt8) (hc : c.toNat < 128) (h : σ[k]? = some (.cy (some TU) E1 (qE s))) (hlen : s.length <= 2 ^ 38) :
    cN aK 244 [.own E1 k s.length 0 s.length,.int .i32 c.toNat] σ fun o σ'=>o = .ret (.own E1 k (s.length+1) 0 (s.length+1))/\σ' = σ.set k (.cy (some TU) E1 (qE (s++[c]))):=by
 refine uW.go ?_;unfold eP;intro Q aF aG aH;repeat' first|simp (disch:=omega) only[go_sem,aF,aG,aH,h,UH]|refine aE ?_|refine aD ?_ ?_<;>intro hw<;>try omega|fail
 all_goals first|(refine⟨rfl,?_⟩;simp;done)|exact bN
def vx {T : TypeId} (hT : Cn T) (σ : ae) (l : Nat) (s : aI) (c : UInt8) (hc : c.toNat < 128) (h : mh T σ l s) (hs : s ≠ []) (hlen : s.length <= 2 ^ 38) :
    cN aK 206 [.ref l 0,.int .i32 c.toNat] σ fun o σ'=>(∃ r,o = .ret r)/\mh T σ' l (s++[c])/\iY l σ σ':=by
 obtain⟨p,v,h1,h2,h3⟩:=h;have hl:=ef h1;refine tL.go ?_;unfold eP;intro Q aF aG aH;have fX:=Builder_copyCheck hT σ l p v h1 h2;have qM:(σ.set l (.bW (some T) [.ref l 0,v]))[l]? = some (.bW (some T) [.ref l 0,v]):=by simp[hl]
 rcases h3 with⟨rfl,rfl⟩|⟨h3,k,h4,rfl,h5⟩
 ·exact absurd rfl hs
 ·have hk:=ef h5;have J3:∀ o,(σ.set l o)[k]? = some (.cy (some TU) E1 (qE s)):=fun o=>by rw[List.getElem?_set_ne (Ne.symm h4)];exact h5
  repeat' first|simp (disch:=omega) only[go_sem,aF,aG,aH,qM]|refine aE ?_|with_reducible refine cz fX ?_|refine aD ?_ ?_<;>intro hw<;>try omega|fail
  rintro o s' ⟨rfl,rfl⟩;repeat' first|simp (disch:=omega) only[go_sem,aF,aG,aH,qM]|refine aE ?_|with_reducible refine cz (Iu _ k s c hc (J3 _) hlen) ?_|refine aD ?_ ?_<;>intro hw<;>try omega|fail
  rintro o s' ⟨rfl,rfl⟩
  have Ae:∀ o,((σ.set l (.bW (some T) [.ref l 0,.own E1 k s.length 0 s.length])).set k o)[l]? = some (.bW (some T) [.ref l 0,.own E1 k s.length 0 s.length]):=fun o=>by
   rw[List.getElem?_set_ne h4];exact qM
  have h1a:∀ o o',(((σ.set l (.bW (some T) [.ref l 0,.own E1 k s.length 0 s.length])).set k o).set l o')[l]? = some o':=fun o o'=>by
   rw[List.getElem?_set_self (by simpa using hl)]
  repeat' first|simp (disch:=omega) only[go_sem,aF,aG,aH,qM,Ae,h1a,J3,bA]|refine aE ?_|refine aD ?_ ?_<;>intro hw<;>try omega|fail
  refine⟨⟨_,rfl⟩,⟨.ref l 0,.own E1 k (s.length+1) 0 (s.length+1),?_,.inr rfl,.inr ⟨by simp,k,h4,by simp,?_⟩⟩,by simp,fun j o' hj hne wT=>?_⟩
  ·simp[hl]
  ·rw[List.getElem?_set_ne (Ne.symm h4)];simp[hk]
  ·have BI:j≠k:=fun e=>by subst e;rw[h5]at hj;cases hj;exact wT _ _ rfl
   rw[List.getElem?_set_ne (Ne.symm hne),List.getElem?_set_ne (Ne.symm BI),List.getElem?_set_ne (Ne.symm hne)];exact hj
def OS(s:aI)(ha:∀ i,i<s.length->(s.getD i 0).toNat<128)(hs:s.length<=2 ^ 36): aP aK 168 [.str s] (.str (jZ s)):=by
 refine aR H_ ?_;intro Q aF aG aH;have hb0:mh TB [.bW (some TB) [.iM,.au]] 0 []:=⟨_,_,rfl,.inl rfl,.inl ⟨rfl,rfl⟩⟩;repeat' first|refine aE ?_|with_reducible refine cz (Builder_WriteByte tS _ 0 _ 34 34 rfl hb0 (by simp)) ?_|refine aD ?_ ?_<;>intro hw<;>try omega|fail
 rintro o σ ⟨rfl,vq,_⟩;repeat' first|refine aE ?_|refine aD ?_ ?_<;>intro hw<;>try omega|fail
 generalize hq : σ.length=q at *;with_reducible refine bZ [5,9,10,11,12,13,14,15,16,17,18,19] (fun x:Nat × ae=>[]) (fun x=>x.2) (fun x=>x.1<=s.length/\mh TB x.2 0 (34::(s.take x.1).flatMap gW)/\x.2[q]? = some (.iR s x.1)) (fun x=>s.length-x.1) (0,σ++[.iR s 0]) ?_ ?_ ?_ ?_
 ·exact⟨bR _,by simpa using vq.push _,by rw[<-hq];simp⟩
 ·rfl
 ·exact at_
 clear vq hb0 hq;rintro⟨i,σ⟩ r ⟨h1,h2,h3⟩;dsimp only at h1 h2 h3;have hql:=J2 (s.take i);rw[List.length_take]at hql;have AO:(34::(s.take i).flatMap gW).length<=2 ^ 37+1:=by rw[List.length_cons];omega
 by_cases hi:i<s.length
 ·have hai:=ha i hi;have ht:=RZ hi;have hb:=h2.Xl h3 (.iR s (i+1));have hne:(34::(s.take i).flatMap gW:aI)≠[]:=by simp
  have Qc:(σ.set q (.iR s (i+1)))[q]? = some (.iR s (i+1)):=by rw[List.getElem?_set_self (ef h3)]
  have hq0:q≠0:=fun e=>by
   obtain⟨p,v,k1,_⟩:=h2;rw[e,k1]at h3;cases h3
  generalize (s.take i).flatMap gW=acc at *;by_cases hc:(s.getD i 0).toNat=34\/(s.getD i 0).toNat=92
  ·rw[gW,if_pos hc]at ht;repeat' first|simp (disch:=omega) only[go_sem,aF,aG,aH,h3]|refine aE ?_|with_reducible refine cz (Builder_WriteByte tS _ 0 _ 92 92 rfl hb (by omega)) ?_|refine aD ?_ ?_<;>intro hw<;>try omega|fail
   all_goals first
    | (rintro o σ1 ⟨rfl, vq, cZ⟩
       have h3a:=cZ.2 q _ Qc hq0 (fun _ _=>by simp);repeat' first|refine aE ?_|with_reducible refine cz (vx tS _ 0 _ (s.getD i 0) hai vq (by simp) (by simp only[aA,List.length_cons,List.length_nil];omega)) ?_|refine aD ?_ ?_<;>intro hw<;>try omega|fail
       rintro o σ2 ⟨⟨rr,rfl⟩,gN,jS⟩;repeat' first|refine aE ?_|refine aD ?_ ?_<;>intro hw<;>try omega|fail
       refine⟨(i+1,σ2),⟨?_,?_,?_⟩,?_,rfl,dH,at_⟩
       ·dsimp only;omega
       ·dsimp only;rw[ht];simpa using gN
       ·exact jS.2 q _ h3a hq0 (fun _ _=>by simp)
       ·dsimp only;omega)
    | exact bN
  ·rw[gW,if_neg hc]at ht;repeat' first|simp (disch:=omega) only[go_sem,aF,aG,aH,h3]|refine aE ?_|with_reducible refine cz (vx tS _ 0 _ (s.getD i 0) hai hb hne (by omega)) ?_|refine aD ?_ ?_<;>intro hw<;>try omega|fail
   all_goals first
    | (rintro o σ2 ⟨⟨rr, rfl⟩, gN, jS⟩
       repeat' first|refine aE ?_|refine aD ?_ ?_<;>intro hw<;>try omega|fail
       refine⟨(i+1,σ2),⟨?_,?_,?_⟩,?_,rfl,dH,at_⟩
       ·dsimp only;omega
       ·dsimp only;rw[ht];simpa using gN
       ·exact jS.2 q _ Qc hq0 (fun _ _=>by simp)
       ·dsimp only;omega)
    | exact bN
 ·have Yv:i=s.length:=by omega
  have xu:s.take i=s:=bw (by omega);rw[xu]at h2 AO;simp only[List.length_cons]at AO;repeat' first|simp (disch:=omega) only[go_sem,aF,aG,aH,h3]|refine aE ?_|with_reducible refine cz (Builder_WriteByte tS _ 0 _ 34 34 rfl h2 (by simp only[List.length_cons];omega)) ?_|refine aD ?_ ?_<;>intro hw<;>try omega|fail
  rintro o σ1 ⟨rfl,vq,_⟩;repeat' first|refine aE ?_|with_reducible refine cz (Builder_String _ 0 _ vq (by simp only[aA,List.length_cons,List.length_nil];omega)) ?_|refine aD ?_ ?_<;>intro hw<;>try omega|fail
  rintro o σ2 ⟨rfl,_⟩;repeat' first|refine aE ?_|refine aD ?_ ?_<;>intro hw<;>try omega|fail
  refine aU ?_ rfl;simp[jZ]
def M1{s:aI}(h:gk s=true): ∀ i,i<s.length->(s.getD i 0).toNat<128:=by
 intro i hi;simp only[gk,aq,aW]at h;have:=h.2 (s.getD i 0) (by rw[aj,aL hi];exact cQ hi);rw[vQ]at this;omega
def Af(v:eu)(h0 : -9223372036854775808<=v.n)(h1:v.n<=9223372036854775807)(hr:bT v=true): aP aK 132 [fF v] (.bO [.str (eN v),I 0]):=by
 obtain⟨k,n,s⟩:=v;dsimp only at h0 h1;have c1:=qG k n s h0 h1;rw[hr]at c1;simp only[mZ,if_true]at c1;have c2:=strconv_Itoa n h0 h1
 have c3:k=2->aP aK 168 [.str s] (.str (jZ s)):=fun hk=>by
  unfold bT at hr;dsimp only at hr;rw[if_neg (by omega),if_neg (by omega),if_pos hk]at hr;simp only[aq]at hr;have hp:=hr.2;refine OS s (M1 hp) ?_;simp only[gk,aq,decide_eq_true_eq]at hp;omega
 have c4:=fun b=>strconv_FormatBool b;clear hr;have hS:eN ⟨k,n,s⟩=if k=1 then Lib.itoa n else if k=2 then jZ s else if k=3 then(if n=1 then qV else ou)else GB:=rfl
 rw[hS];clear hS;generalize Lib.itoa n=t1 at *;generalize jZ s=t2 at *;simp only[fF];by_cases k2:k=2
 ·have c5:=c3 k2;clear c3;subst k2;refine aR AS ?_;intro Q aF aG aH;repeat' first|refine aE ?_|refine aD ?_ ?_<;>intro hw<;>try omega|fail
  all_goals (refine b_ ?_ rfl;simp)
 ·clear c3;refine aR AS ?_;intro Q aF aG aH;repeat' first|refine aE ?_|refine fm (c4 _) ?_|refine aD ?_ ?_<;>intro hw<;>try omega|fail
  all_goals (refine b_ ?_ rfl;simp_all[qV,ou,GB])
