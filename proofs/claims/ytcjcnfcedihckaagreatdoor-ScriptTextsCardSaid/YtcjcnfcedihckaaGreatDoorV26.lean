/- Part. -/
import Derived.Test.YtcjcnfcedihckaaGreatDoorV25
set_option linter.all false
set_option maxHeartbeats 2000000
namespace Go.Proofs.YtcjcnfcedihckaaGreatDoor
open Go.AM
set_option maxRecDepth 4000
def oF: aG:=[105,102,32]
def mQ: aG:=[32,116,104,101,110,32]
def rN: aG:=[32,101,108,115,101,32]
def lZ(w:Int × aG)(lvl:Int): aG:=if w.1<lvl then 40::(w.2++[41])else w.2
def mH(op:Int)(v:eu)(s:aG)(ws:List (Int × aG)): aG :=
 if op=1 then eJ v else if op=2 then s
 else if op=3 then 45::lZ (ws.getD 0 default) 6
 else if op=16 then oF++lZ (ws.getD 0 default) 0++mQ++lZ (ws.getD 1 default) 0++rN++lZ (ws.getD 2 default) 0
 else lZ (ws.getD 0 default) (if(cJ op).level=3 then 4 else(cJ op).level)++[32]++(cJ op).sign++[32]++lZ (ws.getD 1 default) ((cJ op).level+1)
mutual
def cA: Expr->aG
 | .mk op v s l=>mH op v s (oG l)
def oG: List Expr->List (Int × aG)
 | []=>[]
 | x::r=>(cP x.op,cA x)::oG r
end
def eX(x:Expr)(lvl:Int): aG:=lZ (cP x.op,cA x) lvl
def E5(n:Int)(h0 : -9223372036854775808<=n)(h1:n<=9223372036854775807): (Lib.itoa n).length<=21:=by
 unfold Lib.itoa;split
 ·have:=zC 19 n.natAbs (by omega);rw[List.length_cons];omega
 ·have:=zC 19 n.toNat (by omega);omega
def wW(v:eu)(h0 : -9223372036854775808<=v.n)(h1:v.n<=9223372036854775807)(hr:bT v=true): (eJ v).length<=82:=by
 unfold eJ;split
 ·have:=E5 v.n h0 h1;omega
 split
 ·rename_i h1 h2;unfold bT at hr;rw[if_neg (by omega),if_neg (by omega),if_pos h2]at hr;simp only[gg,aD,decide_eq_true_eq]at hr;have:=B4 v.s;simp only[jQ,List.length_cons,aC,List.length_nil];omega
 split
 ·split<;>simp[jO,jh]
 ·simp[lE]
def zD(w:Int × aG)(lvl:Int): (lZ w lvl).length<=w.2.length+2:=by
 unfold lZ;split<;>simp
def E6(op:Int): (cJ op).sign.length<=3:=by
 unfold cJ;cases h:gj.find? (fun b=>b.op==op)with
 | none=>simp
 | some b =>
   have:=fx h;simp only[gj,List.mem_cons,List.not_mem_nil,or_false]at this;rcases this with rfl|rfl|rfl|rfl|rfl|rfl|rfl|rfl|rfl|rfl|rfl|rfl<;>simp
def qa {op : Int} {v : eu} {s : aG} {l : List Expr} (h : cq (.mk op v s l) = true) :
    (op=1/\l=[]/\s=[]/\bT v=true/\(v.kind≠1\/0<=v.n))\/(op=2/\l=[]/\v=v0/\fc s=true)\/(op=3/\v=v0/\s=[]/\ ∃ a,l=[a]/\cq a=true) \/
    (op=16/\v=v0/\s=[]/\ ∃ a b c,l=[a,b,c]/\cq a=true/\cq b=true/\cq c=true) \/
    (4<=op/\op<=15/\v=v0/\s=[]/\1<=(cJ op).level/\(cJ op).level<=5/\cP op=(cJ op).level/\(cJ op).op=op/\(cJ op) ∈ gj/\ ∃ a b,l=[a,b]/\cq a=true/\cq b=true):=by
 simp only[cq,aD,decide_eq_true_eq]at h;obtain⟨h1,h2⟩:=h;by_cases o1:op=1
 ·left;rw[if_pos o1]at h2;simp only[aD,decide_eq_true_eq,cz]at h2;have:jr op=0:=by unfold jr;rw[if_pos (.inl o1)]
  exact⟨o1,List.length_eq_zero_iff.1 (by omega),h2.1.1,h2.1.2,h2.2⟩
 rw[if_neg o1]at h2;by_cases o2:op=2
 ·right;left;rw[if_pos o2]at h2;simp only[aD,decide_eq_true_eq]at h2;have:jr op=0:=by unfold jr;rw[if_pos (.inr o2)]
  exact⟨o2,List.length_eq_zero_iff.1 (by omega),h2.1,h2.2⟩
 rw[if_neg o2]at h2;simp only[aD,decide_eq_true_eq]at h2;obtain⟨⟨h3,h4⟩,h5⟩:=h2;by_cases o3:op=3
 ·right;right;left;have:jr op=1:=by unfold jr;rw[if_neg (by omega),if_pos o3]
  match l,h1,h5 with
  | [a],_,h5=>simp only[ov,g_]at h5;exact⟨o3,h3,h4,a,rfl,h5⟩
  | [],h1,_=>simp at h1;omega
  | _::_::_,h1,_=>simp at h1;omega
 by_cases o4:op=16
 ·right;right;right;left;have:jr op=3:=by unfold jr;rw[if_neg (by omega),if_neg o3,if_pos o4]
  match l,h1,h5 with
  | [a,b,c],_,h5=>simp only[ov,g_,aD]at h5;exact⟨o4,h3,h4,a,b,c,rfl,h5.1,h5.2.1,h5.2.2⟩
  | [],h1,_=>simp at h1;omega
  | [_],h1,_=>simp at h1;omega
  | [_,_],h1,_=>simp at h1;omega
  | _::_::_::_::_,h1,_=>simp at h1;omega
 ·right;right;right;right;have hc:jr op=if 0<(cJ op).level then 2 else -1:=by unfold jr;rw[if_neg (by omega),if_neg o3,if_neg o4]
  have hlv:0<(cJ op).level:=by
   by_cases h:0<(cJ op).level
   ·exact h
   ·rw[if_neg h]at hc;omega
  rw[if_pos hlv]at hc;have E7:cP op=(cJ op).level:=by unfold cP;rw[if_neg o4,if_neg o3,if_neg (by omega)]
  have hf:(cJ op).op=op/\cJ op ∈ gj:=by
   unfold cJ at hlv ⊢;cases hq:gj.find? (fun b=>b.op==op)with
   | none=>rw[hq]at hlv;simp at hlv
   | some b =>
     have h1:=eL hq;exact⟨by simpa using h1,fx hq⟩
  have hb:4<=op/\op<=15/\(cJ op).level<=5:=by
   obtain⟨q1,q2⟩:=hf;generalize cJ op=b at q1 q2;simp only[gj,List.mem_cons,List.not_mem_nil,or_false]at q2;rcases q2 with rfl|rfl|rfl|rfl|rfl|rfl|rfl|rfl|rfl|rfl|rfl|rfl<;>(dsimp only at q1 ⊢;omega)
  match l,h1,h5 with
  | [a,b],_,h5=>simp only[ov,g_,aD]at h5;exact⟨hb.1,hb.2.1,h3,h4,by omega,hb.2.2,E7,hf.1,hf.2,a,b,rfl,h5.1,h5.2⟩
  | [],h1,_=>simp at h1;omega
  | [_],h1,_=>simp at h1;omega
  | _::_::_::_,h1,_=>simp at h1;omega
def tY{x:Expr}(h:cq x=true): 0<=cP x.op:=by
 obtain⟨op,v,s,l⟩:=x;rcases qa h with⟨rfl,_⟩|⟨rfl,_⟩|⟨rfl,_⟩|⟨rfl,_⟩|⟨_,_,_,_,h1,_,h2,_⟩
 ·show 0<=cP 1;decide
 ·show 0<=cP 2;decide
 ·show 0<=cP 3;decide
 ·show 0<=cP 16;decide
 ·show 0<=cP op;omega
def zE{x:Expr}{lv:Int}(h:¬ cP x.op<lv): eX x lv=cA x:=by unfold eX lZ;exact if_neg h
def E8{x:Expr}{lv:Int}(h:cP x.op<lv): eX x lv=40::(cA x++[41]):=by unfold eX lZ;exact if_pos h
def TX{s:aG}(h:fc s=true): s.length<=16:=by
 simp only[fc,aD,decide_eq_true_eq]at h;exact h.1.2
def uL(x:Expr): cq x=true->gV x->(cA x).length<=110*ew x:=by
 induction x using Expr.ind with
 | h op v s l ih =>
   intro hr hx;simp only[gV]at hx;obtain⟨_,_,TY,Mz,hl⟩:=hx
   have key:∀ y ∈ l,cq y=true-> ∀ lvl,(lZ (cP y.op,cA y) lvl).length<=110*ew y+2:=fun y hy Qd lvl=>by
    have:=ih y hy Qd (u9 hl hy);have:=zD (cP y.op,cA y) lvl;dsimp only at this;omega
   have W8:=E6 op;rcases qa hr with⟨rfl,rfl,rfl,h1,_⟩|⟨rfl,rfl,rfl,h1⟩|⟨rfl,rfl,rfl,a,rfl,ha⟩|⟨rfl,rfl,rfl,a,b,c,rfl,ha,hb,hc⟩|⟨o1,o2,rfl,rfl,_,_,_,_,_,a,b,rfl,ha,hb⟩
   ·have:=wW v TY Mz h1;simp only[cA,mH,if_true,ew];omega
   ·have:=TX h1;simp[cA,mH,ew];omega
   ·have:=key a (by simp) ha 6;simp[cA,oG,mH,ew,lq];omega
   ·have k1:=key a (by simp) ha 0;have k2:=key b (by simp) hb 0;have k3:=key c (by simp) hc 0;simp[cA,oG,mH,ew,lq,oF,mQ,rN];omega
   ·have k1:=key a (by simp) ha (if(cJ op).level=3 then 4 else(cJ op).level);have k2:=key b (by simp) hb ((cJ op).level+1)
    have:cA (.mk op v0 [] [a,b])=lZ (cP a.op,cA a) (if(cJ op).level=3 then 4 else(cJ op).level)++[32]++(cJ op).sign++[32]++lZ (cP b.op,cA b) ((cJ op).level+1):=by
     simp only[cA,oG,mH];rw[if_neg (by omega),if_neg (by omega),if_neg (by omega),if_neg (by omega)];rfl
    rw[this];simp only[aC,List.length_cons,List.length_nil,ew,lq];omega
def Qe(x:Expr)(hr:cq x=true)(hx:gV x)(lvl:Int): (eX x lvl).length<=110*ew x+2:=by
 have:=uL x hr hx;have h2:=zD (cP x.op,cA x) lvl;dsimp only at h2;unfold eX;omega
def DO(x:Expr): cq x=true->gV x->ew x<=2 ^ 30-> ∀ lvl:Int,aH aE 176 [aI x,I lvl] (.str (eX x lvl)):=by
 induction x using Expr.ind with
 | h op v s l ih =>
   intro hr hx hz;have hx0:=hx;have M9:=tY hr;have RT:=uL _ hr hx;simp only[gV]at hx;obtain⟨hs,hvs,TY,Mz,hl⟩:=hx;simp only[ew]at hz RT;have hL:=Dw op
   have vA:∀ y ∈ l,cq y=true-> ∀ lvl,aH aE 176 [aI y,I lvl] (.str (eX y lvl))/\(eX y lvl).length<=2 ^ 40:=fun y hy Qd lvl=>by
    have h1:=qM hy;refine⟨ih y hy Qd (u9 hl hy) (by omega) lvl,?_⟩;have:=Qe y Qd (u9 hl hy) lvl;omega
   have zF:∀ lvl:Int,¬ cP op<lvl->aH aE 176 [aI (.mk op v s l),I lvl] (.str (cA (.mk op v s l))):=by
    intro lvl M_;rcases qa hr with⟨rfl,rfl,rfl,h1,_⟩|⟨rfl,rfl,rfl,h1⟩|⟨rfl,rfl,rfl,a,rfl,ha⟩|⟨rfl,rfl,rfl,a,b,c,rfl,ha,hb,hc⟩|⟨o1,o2,rfl,rfl,Qf,lv5,E7,_,_,a,b,rfl,ha,hb⟩
    ·have hvl : v.s.length <= 2 ^ 38 := by
      unfold bT at h1;split at h1
      ·simp only[aD,decide_eq_true_eq]at h1;rw[h1.2];simp
      split at h1
      ·simp only[decide_eq_true_eq]at h1;rw[h1];simp
      split at h1
      ·simp only[gg,aD,decide_eq_true_eq]at h1;omega
      split at h1
      ·simp only[aD,decide_eq_true_eq]at h1;rw[h1.1];simp
      ·cases h1
     have ht:=GZ v TY Mz hvl;rw[show cA (.mk 1 v [] [])=eJ v from by simp[cA,mH]];generalize eJ v=tv at *;generalize cP 1=lv at *;simp only[eR]at ht;rw[aO];refine aJ j3 ?_;intro Q au aA aB;repeat' first|refine aq ?_|refine ak ?_ ?_<;>intro hw<;>try omega|fail
     all_goals first|exact aL rfl rfl|exact bh
    ·rw[show cA (.mk 2 v0 s [])=s from by simp[cA,mH]];generalize cP 2=lv at *;rw[aO];refine aJ j3 ?_;intro Q au aA aB;repeat' first|refine aq ?_|refine ak ?_ ?_<;>intro hw<;>try omega|fail
     all_goals first|exact aL rfl rfl|exact bh
    ·obtain⟨i1,i2⟩:=vA a (by simp) ha 6;rw[show cA (.mk 3 v0 [] [a])=45::eX a 6 from by simp[cA,oG,mH,eX]];generalize eX a 6=t1 at *;generalize cP 3=lv at *;rw[aO]at i1;rw[aO];refine aJ j3 ?_;intro Q au aA aB;repeat' first|refine aq ?_|refine ak ?_ ?_<;>intro hw<;>try omega|fail
     all_goals first|exact aL rfl rfl|exact bh
    ·obtain⟨i1,i2⟩:=vA a (by simp) ha 0;obtain⟨j1,j2⟩:=vA b (by simp) hb 0;obtain⟨k1,k2⟩:=vA c (by simp) hc 0;rw[show cA (.mk 16 v0 [] [a,b,c])=oF++eX a 0++mQ++eX b 0++rN++eX c 0 from by simp[cA,oG,mH,eX]];generalize eX a 0=t1 at *;generalize eX b 0=t2 at *;generalize eX c 0=t3 at *;generalize cP 16=lv at *;rw[aO]at i1 j1 k1;rw[aO];refine aJ j3 ?_;intro Q au aA aB;repeat' first|simp (disch:=omega) only[go_sem,au,aA,aB,fA,show(2:Int).toNat=2 from rfl]|refine aq ?_|refine ak ?_ ?_<;>intro hw<;>try omega|fail
     all_goals first|(refine aL ?_ rfl;simp[oF,mQ,rN];done)|exact bh
    ·obtain⟨i1,i2⟩:=vA a (by simp) ha (if(cJ op).level=3 then 4 else(cJ op).level);obtain⟨j1,j2⟩:=vA b (by simp) hb ((cJ op).level+1);have W8:=zk op;have hsl:=E6 op
     have hW:cA (.mk op v0 [] [a,b])=eX a (if(cJ op).level=3 then 4 else(cJ op).level)++[32]++(cJ op).sign++[32]++eX b ((cJ op).level+1):=by
      simp only[cA,oG,mH];rw[if_neg (by omega),if_neg (by omega),if_neg (by omega),if_neg (by omega)];rfl
     rw[hW];rw[E7]at hL M_;clear hW E7 RT M9;generalize (cJ op).sign=sg at *;generalize (cJ op).level=lv at *;rw[aO]at i1 j1;rw[aO];by_cases h3:lv=3
     ·subst h3;simp only[if_true]at i1 i2 ⊢;generalize eX a 4=t1 at *;generalize eX b (3+1)=t2 at *;simp only[Int.reduceAdd]at j1;refine aJ j3 ?_;intro Q au aA aB;repeat' first|simp (disch:=omega) only[go_sem,au,aA,aB,fA,Int.reduceAdd]|refine aq ?_|refine ak ?_ ?_<;>intro hw<;>try omega|fail
      all_goals first|(refine aL ?_ rfl;simp;done)|exact bh
     ·simp only[if_neg h3]at i1 i2 ⊢;generalize eX a lv=t1 at *;generalize eX b (lv+1)=t2 at *;refine aJ j3 ?_;intro Q au aA aB;repeat' first|simp (disch:=omega) only[go_sem,au,aA,aB,fA]|refine aq ?_|refine ak ?_ ?_<;>intro hw<;>try omega|fail
      all_goals first|(refine aL ?_ rfl;simp;done)|exact bh
   intro lvl;by_cases M_:cP op<lvl
   ·have h0:=zF 0 (by show ¬ cP op<0;have:0<=cP op:=M9;omega);have e:eX (.mk op v s l) lvl=40::(cA (.mk op v s l)++[41]):=E8 (x:= .mk op v s l) M_;rw[e];have hlw:(cA (.mk op v s l)).length<=2 ^ 40:=by omega
    clear e RT zF;generalize cA (.mk op v s l)=t at *;generalize cP op=lv at *;simp only[aI]at h0 ⊢;refine aJ j3 ?_;intro Q au aA aB;repeat' first|refine aq ?_|refine ak ?_ ?_<;>intro hw<;>try omega|fail
    all_goals first|(refine aL ?_ rfl;simp;done)|exact bh
   ·have e:eX (.mk op v s l) lvl=cA (.mk op v s l):=zE (x:= .mk op v s l) M_;rw[e];exact zF lvl M_
def As(x:Expr)(hr:cq x=true)(hx:gV x)(hz:ew x<=2 ^ 30)(lvl:Int): aH aE 216 [aI x,I lvl] (.str (eX x lvl)):=by
 have h:=DO x hr hx hz lvl;generalize eX x lvl=t at *;rw[aO]at h ⊢;refine aJ EB ?_;intro Q au aA aB;repeat' first|refine aq ?_|refine ak ?_ ?_<;>intro hw<;>try omega|fail
 all_goals exact aL rfl rfl
def kj(x:Expr): Bool:=decide (200<(cA x).length)
def rO(x:Expr): aG × Int:=if cq x=false then([],2)else if 12<iP x then([],12)else if kj x=true then([],5)else (cA x,0)
def Na{x:Expr}(hr:cq x=true): eX x 0=cA x:=by
 have:=tY hr;exact zE (by omega)
def zG(x:Expr)(hx:gV x)(hz:ew x<=2 ^ 30): aH aE 135 [aI x] (.bJ [.str (rO x).1,I (rO x).2]):=by
 have h1:=xx x hx (by omega);have h2:=zn x (by omega);have h3:=fun hr=>DO x hr hx hz 0;have hT:rO x=if cq x=false then([],2)else if 12<iP x then([],12)else if kj x=true then([],5)else (cA x,0):=rfl
 rw[hT];unfold kj;cases hr:cq x with
 | false =>
   rw[if_pos rfl];rw[hr]at h1;rw[aO]at h1 ⊢;refine aJ Ah ?_;intro Q au aA aB;repeat' first|refine aq ?_|refine ak ?_ ?_<;>intro hw<;>try omega|fail
   all_goals exact bp rfl rfl
 | true =>
   have h3:=h3 hr;rw[Na hr]at h3;have hlen:=uL x hr hx;rw[if_neg (by simp)];rw[hr]at h1;generalize cA x=t at *;generalize iP x=d at *;rw[aO]at h1 h2 h3 ⊢;refine aJ Ah ?_;intro Q au aA aB;by_cases hd:12<d
   ·simp only[if_pos hd]at au aA aB;repeat' first|refine aq ?_|refine ak ?_ ?_<;>intro hw<;>try omega|fail
    all_goals first|exact bp rfl rfl|exact bh
   ·simp only[if_neg hd,decide_eq_true_eq]at au aA aB;by_cases hb:200<t.length
    ·simp only[if_pos hb]at au aA aB;repeat' first|refine aq ?_|refine ak ?_ ?_<;>intro hw<;>try omega|fail
     all_goals first|exact bp rfl rfl|exact bh
    ·simp only[if_neg hb]at au aA aB;repeat' first|refine aq ?_|refine ak ?_ ?_<;>intro hw<;>try omega|fail
     all_goals first|exact bp rfl rfl|exact bh
abbrev TB: TypeId:=56
abbrev TU: TypeId:=5
def lJ(T:TypeId)(σ : ae)(l:Nat)(s:aG): Prop:= ∃ p v,σ[l]? = some (.bM (some T) [p,v])/\(p = .iE\/p = .ref l 0) /\
 ((s=[]/\v = .ai)\/(s≠[]/\ ∃ k,k≠l/\v = .own E1 k s.length 0 s.length/\σ[k]? = some (.cy (some TU) E1 (ot s))))
def iY(l:Nat)(σ σ':ae): Prop:=σ.length<=σ'.length/\ ∀ j o,σ[j]? = some o->j≠l->(∀ T xs,o≠ .cy (some T) E1 xs)->σ'[j]? = some o
def iY.refl(l:Nat)(σ : ae): iY l σ σ:=⟨Nat.le_refl _,fun _ _ h _ _=>h⟩
def ey{σ : ae}{l:Nat}{o:bx}(h : σ[l]? = some o): l < σ.length:=(aP.1 h).1
def V4 : ∃ fn, Tryz.prog.funcs[92]? = some fn ∧ (fn.name == "runtime.NumGoroutine") = false ∧ fn.body.isNone = true ∧ Extern.findNext fn = none ∧ Extern.find fn = some Extern.AbiNoEscape.same :=
 ⟨_,Tryz.func92,by kernel_rfl,by kernel_rfl,by kernel_rfl,by kernel_rfl⟩
def B5(T:TypeId): Prop:=liesAt Tryz.prog Tryz.prog.depth T (2 / Tryz.prog.cellsOf T) 0 TB 1=true
def sY: B5 TB:=by unfold B5;kernel_rfl
def Builder_copyCheck {T : TypeId} (hT : B5 T) (σ : ae) (l : Nat) (p v : AV) (h : σ[l]? = some (.bM (some T) [p, v])) (hp : p = .iE \/ p = .ref l 0) :
    dK aE 46 [.ref l 0] σ fun o σ'=>o = .ret (.bJ [])/\σ' = σ.set l (.bM (some T) [.ref l 0,v]):=by
 have vx : σ.set l (.bM (some T) [.ref l 0,v]) = σ\/p = .iE:=by
  rcases hp with rfl|rfl
  ·exact .inr rfl
  ·left;apply List.ext_getElem?;intro k;by_cases e:k=l
   ·subst e;rw[List.getElem?_set_self (ey h)];exact h.symm
   ·rw[List.getElem?_set_ne (Ne.symm e)]
 refine sG.go ?_;unfold dS;intro Q au aA aB;rcases hp with rfl|rfl
 ·repeat' first|simp (disch:=omega) only[go_sem,au,aA,aB,h]|refine aq ?_|refine abx h (by simp) ?_|refine XZ V4 ?_|refine aby h hT ?_|refine ak ?_ ?_<;>intro hw<;>try omega|fail
  exact⟨by trivial,by trivial⟩
 ·rcases vx with vx|vx
  ·repeat' first|simp (disch:=omega) only[go_sem,au,aA,aB,h]|refine aq ?_|refine abz h ?_|refine ak ?_ ?_<;>intro hw<;>try omega|fail
   exact⟨rfl,vx.symm⟩
  ·cases vx
def Builder_Len{T:TypeId}(σ : ae)(l:Nat)(s:aG)(h:lJ T σ l s): dK aE 159 [.ref l 0] σ fun o σ'=>o = .ret (I s.length)/\σ' = σ:=by
 obtain⟨p,v,h1,h2,h3⟩:=h;refine xk.go ?_;unfold dS;intro Q au aA aB;rcases h3 with⟨rfl,rfl⟩|⟨h3,k,h4,rfl,h5⟩
 ·repeat' first|simp (disch:=omega) only[go_sem,au,aA,aB,h1]|refine aq ?_|refine ak ?_ ?_<;>intro hw<;>try omega|fail
  exact⟨rfl,trivial⟩
 ·repeat' first|simp (disch:=omega) only[go_sem,au,aA,aB,h1]|refine aq ?_|refine ak ?_ ?_<;>intro hw<;>try omega|fail
  exact⟨rfl,trivial⟩
def Builder_WriteString {T : TypeId} (hT : B5 T) (σ : ae) (l : Nat) (s t : aG) (h : lJ T σ l s) (hlen : s.length + t.length <= 2 ^ 38) :
    dK aE 21 [.ref l 0,.str t] σ fun o σ'=>o = .ret (.bJ [I t.length,.ja])/\lJ T σ' l (s++t)/\iY l σ σ':=by
 obtain⟨p,v,h1,h2,h3⟩:=h;have hl:=ey h1;refine rm.go ?_;unfold dS;intro Q au aA aB;have fN:=Builder_copyCheck hT σ l p v h1 h2;have qb:(σ.set l (.bM (some T) [.ref l 0,v]))[l]? = some (.bM (some T) [.ref l 0,v]):=by simp[hl]
 have beside:∀ (o:bx),iY l σ (σ.set l o):=fun o=>⟨by simp,fun j o' hj hne _=>by rw[List.getElem?_set_ne (Ne.symm hne)];exact hj⟩;rcases h3 with⟨rfl,rfl⟩|⟨h3,k,h4,rfl,h5⟩
 ·cases t with
  | nil =>
    repeat' first|simp (disch:=omega) only[go_sem,au,aA,aB,qb]|refine aq ?_|with_reducible refine bU fN ?_|refine ak ?_ ?_<;>intro hw<;>try omega|fail
    rintro o s ⟨rfl,rfl⟩;repeat' first|simp (disch:=omega) only[go_sem,au,aA,aB,qb,List.set_set]|refine aq ?_|refine ak ?_ ?_<;>intro hw<;>try omega|fail
    exact⟨rfl,⟨_,_,qb,.inr rfl,.inl ⟨rfl,rfl⟩⟩,beside _⟩
  | cons c t =>
    simp only[List.length_nil,List.length_cons]at hlen;repeat' first|simp (disch:=omega) only[go_sem,au,aA,aB,qb]|refine aq ?_|with_reducible refine bU fN ?_|refine ak ?_ ?_<;>intro hw<;>try omega|fail
    rintro o s ⟨rfl,rfl⟩
    have zH:∀ o,((σ.set l (.bM (some T) [.ref l 0,.ai]))++[o])[l]? = some (.bM (some T) [.ref l 0,.ai]):=fun o=>by
     rw[aN (by simpa using hl)];exact qb
    repeat' first|simp (disch:=omega) only[go_sem,au,aA,aB,qb,zH,List.set_set]|refine aq ?_|refine ak ?_ ?_<;>intro hw<;>try omega|fail
    rw[List.set_append_left _ _ (by simpa using hl),List.set_set];refine⟨rfl,⟨.ref l 0,.own E1 σ.length (t.length+1) 0 (t.length+1),?_,.inr rfl,.inr ⟨by simp,σ.length,by omega,by simp,?_⟩⟩,by simp,fun j o' hj hne _=>?_⟩
    ·rw[aN (by simpa using hl)];simp[hl]
    ·rw[cB (by simp)];simp
    ·rw[aN (by simpa using ey hj),List.getElem?_set_ne (Ne.symm hne)];exact hj
 ·have hk:=ey h5;have Qg:∀ o,(σ.set l o)[k]? = some (.cy (some TU) E1 (ot s)):=fun o=>by rw[List.getElem?_set_ne (Ne.symm h4)];exact h5
  repeat' first|simp (disch:=omega) only[go_sem,au,aA,aB,qb]|refine aq ?_|with_reducible refine bU fN ?_|refine ak ?_ ?_<;>intro hw<;>try omega|fail
  rintro o s' ⟨rfl,rfl⟩
  have zH:∀ o,((σ.set l (.bM (some T) [.ref l 0,.own E1 k s.length 0 s.length])).set k o)[l]? = some (.bM (some T) [.ref l 0,.own E1 k s.length 0 s.length]):=fun o=>by
   rw[List.getElem?_set_ne h4];exact qb
  repeat' first|simp (disch:=omega) only[go_sem,au,aA,aB,qb,zH,Qg,List.set_set]|refine aq ?_|refine ak ?_ ?_<;>intro hw<;>try omega|fail
  refine⟨rfl,⟨.ref l 0,.own E1 k (s.length+t.length) 0 (s.length+t.length),?_,.inr rfl,.inr ⟨by simp[h3],k,h4,by simp,?_⟩⟩,by simp,fun j o' hj hne vX=>?_⟩
  ·simp[hl]
  ·rw[List.getElem?_set_ne (Ne.symm h4)];simp[hk]
  ·have xR:j≠k:=fun e=>by subst e;rw[h5]at hj;cases hj;exact vX _ _ rfl
   rw[List.getElem?_set_ne (Ne.symm hne),List.getElem?_set_ne (Ne.symm xR),List.getElem?_set_ne (Ne.symm hne)];exact hj
def Builder_String{T:TypeId}(σ : ae)(l:Nat)(s:aG)(h:lJ T σ l s)(hs:s.length<=2 ^ 62): dK aE 23 [.ref l 0] σ fun o σ'=>o = .ret (.str s)/\iY l σ σ':=by
 obtain⟨p,v,h1,h2,h3⟩:=h;refine uC.go ?_;unfold dS;intro Q au aA aB;rcases h3 with⟨rfl,rfl⟩|⟨h3,k,h4,rfl,h5⟩
 ·repeat' first|simp (disch:=omega) only[go_sem,au,aA,aB,h1]|refine aq ?_|refine ak ?_ ?_<;>intro hw<;>try omega|fail
  exact⟨rfl,.refl _ _⟩
 ·have h0:0<s.length:=List.length_pos_iff.2 h3;repeat' first|simp (disch:=omega) only[go_sem,au,aA,aB,h1]|refine aq ?_|refine abA h5 (by simp) h0 ?_|refine ZQ s h5 (by simp) rfl h3 hs rfl ?_|refine ak ?_ ?_<;>intro hw<;>try omega|fail
  refine⟨rfl,by simp,fun j o' hj hne vX=>?_⟩;have xR:j≠k:=fun e=>by subst e;rw[h5]at hj;cases hj;exact vX _ _ rfl
  rw[List.getElem?_set_ne (Ne.symm xR)];exact hj
def lJ.push{T:TypeId}{σ : ae}{l:Nat}{s:aG}(h:lJ T σ l s)(ρ : ae): lJ T (σ++ ρ) l s:=by
 obtain⟨p,v,h1,h2,h3⟩:=h;refine⟨p,v,by rw[aN (ey h1)];exact h1,h2,?_⟩;rcases h3 with h3|⟨h3,k,h4,h5,h6⟩
 ·exact .inl h3
 ·exact .inr ⟨h3,k,h4,h5,by rw[aN (ey h6)];exact h6⟩
def lJ.lt{T:TypeId}{σ : ae}{l:Nat}{s:aG}(h:lJ T σ l s): l < σ.length:=by
 obtain⟨p,v,h1,_⟩:=h;exact ey h1
def lJ.V5{T:TypeId}{σ : ae}{l q:Nat}{s u:aG}{i:Nat}(h:lJ T σ l s)(hq : σ[q]? = some (.iO u i))(o:bx): lJ T (σ.set q o) l s:=by
 obtain⟨p,v,h1,h2,h3⟩:=h;have n1:q≠l:=fun e=>by subst e;rw[hq]at h1;cases h1
 refine⟨p,v,by rw[List.getElem?_set_ne n1];exact h1,h2,?_⟩;rcases h3 with h3|⟨h3,k,h4,h5,h6⟩
 ·exact .inl h3
 ·have n2:q≠k:=fun e=>by subst e;rw[hq]at h6;cases h6
  exact .inr ⟨h3,k,h4,h5,by rw[List.getElem?_set_ne n2];exact h6⟩
def iY.trans{l:Nat}{σ1 σ2 σ3:ae}(h:iY l σ1 σ2)(k:iY l σ2 σ3): iY l σ1 σ3 :=
 ⟨bY h.1 k.1,fun j o h1 h2 h3=>k.2 j o (h.2 j o h1 h2 h3) h2 h3⟩
def iY.pq{l:Nat}{σ ρ σ2:ae}(h:iY l (σ++ ρ) σ2): iY l σ σ2 :=
 ⟨bY (by simp) h.1,fun j o h1 h2 h3=>h.2 j o (by rw[aN (ey h1)];exact h1) h2 h3⟩
def T0{n:Int}(h:0<=n)(h':n<=4294967295): eS .u32 n=n:=by
 show IntKind.wrap .u32 n=n;simp[IntKind.wrap,IntKind.bits,IntKind.signed];omega
def Builder_WriteByte {T : TypeId} (hT : B5 T) (σ : ae) (l : Nat) (s : aG) (c : UInt8) (k : Int) (hk : k = c.toNat) (h : lJ T σ l s) (hlen : s.length <= 2 ^ 38) :
    dK aE 22 [.ref l 0,.int .u8 k] σ fun o σ'=>o = .ret .ja/\lJ T σ' l (s++[c])/\iY l σ σ':=by
 subst hk;obtain⟨p,v,h1,h2,h3⟩:=h;have hl:=ey h1;refine sF.go ?_;unfold dS;intro Q au aA aB;have fN:=Builder_copyCheck hT σ l p v h1 h2;have qb:(σ.set l (.bM (some T) [.ref l 0,v]))[l]? = some (.bM (some T) [.ref l 0,v]):=by simp[hl]
 rcases h3 with⟨rfl,rfl⟩|⟨h3,k,h4,rfl,h5⟩
 ·repeat' first|simp (disch:=omega) only[go_sem,au,aA,aB,qb]|refine aq ?_|with_reducible refine bU fN ?_|refine ak ?_ ?_<;>intro hw<;>try omega|fail
  rintro o s' ⟨rfl,rfl⟩
  have zH:∀ o,((σ.set l (.bM (some T) [.ref l 0,.ai]))++[o])[l]? = some (.bM (some T) [.ref l 0,.ai]):=fun o=>by
   rw[aN (by simpa using hl)];exact qb
  repeat' first|simp (disch:=omega) only[go_sem,au,aA,aB,qb,zH,List.set_set]|refine aq ?_|refine ak ?_ ?_<;>intro hw<;>try omega|fail
  rw[List.set_append_left _ _ (by simpa using hl),List.set_set];refine⟨rfl,⟨.ref l 0,.own E1 σ.length 1 0 1,?_,.inr rfl,.inr ⟨by simp,σ.length,by omega,by simp,?_⟩⟩,by simp,fun j o' hj hne _=>?_⟩
  ·rw[aN (by simpa using hl)];simp[hl]
  ·rw[cB (by simp)];simp
  ·rw[aN (by simpa using ey hj),List.getElem?_set_ne (Ne.symm hne)];exact hj
 ·have hk:=ey h5;have Qg:∀ o,(σ.set l o)[k]? = some (.cy (some TU) E1 (ot s)):=fun o=>by rw[List.getElem?_set_ne (Ne.symm h4)];exact h5
  repeat' first|simp (disch:=omega) only[go_sem,au,aA,aB,qb]|refine aq ?_|with_reducible refine bU fN ?_|refine ak ?_ ?_<;>intro hw<;>try omega|fail
  rintro o s' ⟨rfl,rfl⟩
  have zH:∀ o,((σ.set l (.bM (some T) [.ref l 0,.own E1 k s.length 0 s.length])).set k o)[l]? = some (.bM (some T) [.ref l 0,.own E1 k s.length 0 s.length]):=fun o=>by
   rw[List.getElem?_set_ne h4];exact qb
  repeat' first|simp (disch:=omega) only[go_sem,au,aA,aB,qb,zH,Qg,List.set_set]|refine aq ?_|refine ak ?_ ?_<;>intro hw<;>try omega|fail
  refine⟨rfl,⟨.ref l 0,.own E1 k (s.length+1) 0 (s.length+1),?_,.inr rfl,.inr ⟨by simp,k,h4,by simp,?_⟩⟩,by simp,fun j o' hj hne vX=>?_⟩
  ·simp[hl]
  ·rw[List.getElem?_set_ne (Ne.symm h4)];simp[hk]
  ·have xR:j≠k:=fun e=>by subst e;rw[h5]at hj;cases hj;exact vX _ _ rfl
   rw[List.getElem?_set_ne (Ne.symm hne),List.getElem?_set_ne (Ne.symm xR),List.getElem?_set_ne (Ne.symm hne)];exact hj
def I4 (σ : ae) (k : Nat) (s : aG) (c : UInt8) (hc : c.toNat < 128) (h : σ[k]? = some (.cy (some TU) E1 (ot s))) (hlen : s.length <= 2 ^ 38) :
    dK aE 244 [.own E1 k s.length 0 s.length,.int .i32 c.toNat] σ fun o σ'=>o = .ret (.own E1 k (s.length+1) 0 (s.length+1))/\σ' = σ.set k (.cy (some TU) E1 (ot (s++[c]))):=by
 refine tU.go ?_;unfold dS;intro Q au aA aB;repeat' first|simp (disch:=omega) only[go_sem,au,aA,aB,h,T0]|refine aq ?_|refine ak ?_ ?_<;>intro hw<;>try omega|fail
 all_goals first|(refine⟨rfl,?_⟩;simp;done)|exact bh
def uq {T : TypeId} (hT : B5 T) (σ : ae) (l : Nat) (s : aG) (c : UInt8) (hc : c.toNat < 128) (h : lJ T σ l s) (hs : s ≠ []) (hlen : s.length <= 2 ^ 38) :
    dK aE 206 [.ref l 0,.int .i32 c.toNat] σ fun o σ'=>(∃ r,o = .ret r)/\lJ T σ' l (s++[c])/\iY l σ σ':=by
 obtain⟨p,v,h1,h2,h3⟩:=h;have hl:=ey h1;refine sI.go ?_;unfold dS;intro Q au aA aB;have fN:=Builder_copyCheck hT σ l p v h1 h2;have qb:(σ.set l (.bM (some T) [.ref l 0,v]))[l]? = some (.bM (some T) [.ref l 0,v]):=by simp[hl]
 rcases h3 with⟨rfl,rfl⟩|⟨h3,k,h4,rfl,h5⟩
 ·exact absurd rfl hs
 ·have hk:=ey h5;have Qg:∀ o,(σ.set l o)[k]? = some (.cy (some TU) E1 (ot s)):=fun o=>by rw[List.getElem?_set_ne (Ne.symm h4)];exact h5
  repeat' first|simp (disch:=omega) only[go_sem,au,aA,aB,qb]|refine aq ?_|with_reducible refine bU fN ?_|refine ak ?_ ?_<;>intro hw<;>try omega|fail
  rintro o s' ⟨rfl,rfl⟩;repeat' first|simp (disch:=omega) only[go_sem,au,aA,aB,qb]|refine aq ?_|with_reducible refine bU (I4 _ k s c hc (Qg _) hlen) ?_|refine ak ?_ ?_<;>intro hw<;>try omega|fail
  rintro o s' ⟨rfl,rfl⟩
  have zH:∀ o,((σ.set l (.bM (some T) [.ref l 0,.own E1 k s.length 0 s.length])).set k o)[l]? = some (.bM (some T) [.ref l 0,.own E1 k s.length 0 s.length]):=fun o=>by
   rw[List.getElem?_set_ne h4];exact qb
  have h1a:∀ o o',(((σ.set l (.bM (some T) [.ref l 0,.own E1 k s.length 0 s.length])).set k o).set l o')[l]? = some o':=fun o o'=>by
   rw[List.getElem?_set_self (by simpa using hl)]
  repeat' first|simp (disch:=omega) only[go_sem,au,aA,aB,qb,zH,h1a,Qg,List.set_set]|refine aq ?_|refine ak ?_ ?_<;>intro hw<;>try omega|fail
  refine⟨⟨_,rfl⟩,⟨.ref l 0,.own E1 k (s.length+1) 0 (s.length+1),?_,.inr rfl,.inr ⟨by simp,k,h4,by simp,?_⟩⟩,by simp,fun j o' hj hne vX=>?_⟩
  ·simp[hl]
  ·rw[List.getElem?_set_ne (Ne.symm h4)];simp[hk]
  ·have xR:j≠k:=fun e=>by subst e;rw[h5]at hj;cases hj;exact vX _ _ rfl
   rw[List.getElem?_set_ne (Ne.symm hne),List.getElem?_set_ne (Ne.symm xR),List.getElem?_set_ne (Ne.symm hne)];exact hj
def OY(s:aG)(ha:∀ i,i<s.length->(s.getD i 0).toNat<128)(hs:s.length<=2 ^ 36): aH aE 168 [.str s] (.str (jQ s)):=by
 refine aJ IA ?_;intro Q au aA aB;have hb0:lJ TB [.bM (some TB) [.iE,.ai]] 0 []:=⟨_,_,rfl,.inl rfl,.inl ⟨rfl,rfl⟩⟩;repeat' first|refine aq ?_|with_reducible refine bU (Builder_WriteByte sY _ 0 _ 34 34 rfl hb0 (by simp)) ?_|refine ak ?_ ?_<;>intro hw<;>try omega|fail
 rintro o σ ⟨rfl,sk,_⟩;repeat' first|refine aq ?_|refine ak ?_ ?_<;>intro hw<;>try omega|fail
 generalize hq : σ.length=q at *;with_reducible refine bn [5,9,10,11,12,13,14,15,16,17,18,19] (fun x:Nat × ae=>[]) (fun x=>x.2) (fun x=>x.1<=s.length/\lJ TB x.2 0 (34::(s.take x.1).flatMap gi)/\x.2[q]? = some (.iO s x.1)) (fun x=>s.length-x.1) (0,σ++[.iO s 0]) ?_ ?_ ?_ ?_
 ·exact⟨bD _,by simpa using sk.push _,by rw[<-hq];simp⟩
 ·rfl
 ·exact at_
 clear sk hb0 hq;rintro⟨i,σ⟩ r ⟨h1,h2,h3⟩;dsimp only at h1 h2 h3;have hql:=B4 (s.take i);rw[eY]at hql;have Ds:(34::(s.take i).flatMap gi).length<=2 ^ 37+1:=by rw[List.length_cons];omega
 by_cases hi:i<s.length
 ·have hai:=ha i hi;have ht:=GY hi;have hb:=h2.V5 h3 (.iO s (i+1));have hne:(34::(s.take i).flatMap gi:aG)≠[]:=by simp
  have h3':(σ.set q (.iO s (i+1)))[q]? = some (.iO s (i+1)):=by rw[List.getElem?_set_self (ey h3)]
  have hq0:q≠0:=fun e=>by
   obtain⟨p,v,k1,_⟩:=h2;rw[e,k1]at h3;cases h3
  generalize (s.take i).flatMap gi=acc at *;by_cases hc:(s.getD i 0).toNat=34\/(s.getD i 0).toNat=92
  ·rw[gi,if_pos hc]at ht;repeat' first|simp (disch:=omega) only[go_sem,au,aA,aB,h3]|refine aq ?_|with_reducible refine bU (Builder_WriteByte sY _ 0 _ 92 92 rfl hb (by omega)) ?_|refine ak ?_ ?_<;>intro hw<;>try omega|fail
   all_goals first
    | (rintro o σ1 ⟨rfl, sk, bV⟩
       have h3a:=bV.2 q _ h3' hq0 (fun _ _=>by simp);repeat' first|refine aq ?_|with_reducible refine bU (uq sY _ 0 _ (s.getD i 0) hai sk (by simp) (by simp only[aC,List.length_cons,List.length_nil];omega)) ?_|refine ak ?_ ?_<;>intro hw<;>try omega|fail
       rintro o σ2 ⟨⟨rr,rfl⟩,eN,jG⟩;repeat' first|refine aq ?_|refine ak ?_ ?_<;>intro hw<;>try omega|fail
       refine⟨(i+1,σ2),⟨?_,?_,?_⟩,?_,rfl,bL,at_⟩
       ·dsimp only;omega
       ·dsimp only;rw[ht];simpa using eN
       ·exact jG.2 q _ h3a hq0 (fun _ _=>by simp)
       ·dsimp only;omega)
    | exact bh
  ·rw[gi,if_neg hc]at ht;repeat' first|simp (disch:=omega) only[go_sem,au,aA,aB,h3]|refine aq ?_|with_reducible refine bU (uq sY _ 0 _ (s.getD i 0) hai hb hne (by omega)) ?_|refine ak ?_ ?_<;>intro hw<;>try omega|fail
   all_goals first
    | (rintro o σ2 ⟨⟨rr, rfl⟩, eN, jG⟩
       repeat' first|refine aq ?_|refine ak ?_ ?_<;>intro hw<;>try omega|fail
       refine⟨(i+1,σ2),⟨?_,?_,?_⟩,?_,rfl,bL,at_⟩
       ·dsimp only;omega
       ·dsimp only;rw[ht];simpa using eN
       ·exact jG.2 q _ h3' hq0 (fun _ _=>by simp)
       ·dsimp only;omega)
    | exact bh
 ·have WQ:i=s.length:=by omega
  have n5:s.take i=s:=aT (by omega);rw[n5]at h2 Ds;simp only[List.length_cons]at Ds;repeat' first|simp (disch:=omega) only[go_sem,au,aA,aB,h3]|refine aq ?_|with_reducible refine bU (Builder_WriteByte sY _ 0 _ 34 34 rfl h2 (by simp only[List.length_cons];omega)) ?_|refine ak ?_ ?_<;>intro hw<;>try omega|fail
  rintro o σ1 ⟨rfl,sk,_⟩;repeat' first|refine aq ?_|with_reducible refine bU (Builder_String _ 0 _ sk (by simp only[aC,List.length_cons,List.length_nil];omega)) ?_|refine ak ?_ ?_<;>intro hw<;>try omega|fail
  rintro o σ2 ⟨rfl,_⟩;repeat' first|refine aq ?_|refine ak ?_ ?_<;>intro hw<;>try omega|fail
  refine aL ?_ rfl;simp[jQ]
def Nb{s:aG}(h:gg s=true): ∀ i,i<s.length->(s.getD i 0).toNat<128:=by
 intro i hi;simp only[gg,aD,bq]at h;have:=h.2 (s.getD i 0) (by rw[aj,aK hi];exact dD hi);rw[uH]at this;omega
def zI(v:eu)(h0 : -9223372036854775808<=v.n)(h1:v.n<=9223372036854775807)(hr:bT v=true): aH aE 132 [eR v] (.bJ [.str (eJ v),I 0]):=by
 obtain⟨k,n,s⟩:=v;dsimp only at h0 h1;have c1:=pW k n s h0 h1;rw[hr]at c1;simp only[mw,if_true]at c1;have c2:=strconv_Itoa n h0 h1
 have c3:k=2->aH aE 168 [.str s] (.str (jQ s)):=fun hk=>by
  unfold bT at hr;dsimp only at hr;rw[if_neg (by omega),if_neg (by omega),if_pos hk]at hr;simp only[aD]at hr;have hp:=hr.2;refine OY s (Nb hp) ?_;simp only[gg,aD,decide_eq_true_eq]at hp;omega
 have c4:=fun b=>strconv_FormatBool b;clear hr;have hS:eJ ⟨k,n,s⟩=if k=1 then Lib.itoa n else if k=2 then jQ s else if k=3 then(if n=1 then jO else jh)else lE:=rfl
 rw[hS];clear hS;generalize Lib.itoa n=t1 at *;generalize jQ s=t2 at *;simp only[eR];by_cases k2:k=2
 ·have c5:=c3 k2;clear c3;subst k2;refine aJ Af ?_;intro Q au aA aB;repeat' first|refine aq ?_|refine ak ?_ ?_<;>intro hw<;>try omega|fail
  all_goals (refine bp ?_ rfl;simp)
 ·clear c3;refine aJ Af ?_;intro Q au aA aB;repeat' first|refine aq ?_|refine d_ (c4 _) ?_|refine ak ?_ ?_<;>intro hw<;>try omega|fail
  all_goals (refine bp ?_ rfl;simp_all[jO,jh,lE])
