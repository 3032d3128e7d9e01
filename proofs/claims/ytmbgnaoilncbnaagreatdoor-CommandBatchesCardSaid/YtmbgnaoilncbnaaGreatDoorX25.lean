/- Part. -/
import Derived.Test.YtmbgnaoilncbnaaGreatDoorX24
set_option linter.all false
namespace Go.Proofs.YtmbgnaoilncbnaaGreatDoor
open Go.AM
set_option maxRecDepth 4000
def tG: aJ:=[105,102,32]
def pU: aJ:=[32,116,104,101,110,32]
def yf: aJ:=[32,101,108,115,101,32]
def oQ(w:Int × aJ)(lvl:Int): aJ:=if w.1<lvl then 40::(w.2++[41])else w.2
def pD(op:Int)(v:eg)(s:aJ)(ws:List (Int × aJ)): aJ :=
 if op=1 then ye v else if op=2 then s
 else if op=3 then 45::oQ (ws.getD 0 default) 6
 else if op=16 then tG++oQ (ws.getD 0 default) 0++pU++oQ (ws.getD 1 default) 0++yf++oQ (ws.getD 2 default) 0
 else oQ (ws.getD 0 default) (if(cV op).level=3 then 4 else(cV op).level)++[32]++(cV op).sign++[32]++oQ (ws.getD 1 default) ((cV op).level+1)
mutual
def cJ: Expr->aJ
 | .mk op v s l=>pD op v s (tH l)
def tH: List Expr->List (Int × aJ)
 | []=>[]
 | x::r=>(dc x.op,cJ x)::tH r
end
def fq(x:Expr)(lvl:Int): aJ:=oQ (dc x.op,cJ x) lvl
def adu(n:Int)(h0 : -9223372036854775808<=n)(h1:n<=9223372036854775807): (Lib.itoa n).length<=21:=by
 unfold Lib.itoa;split
 ·have:=Ib 19 n.natAbs (by omega);rw[List.length_cons];omega
 ·have:=Ib 19 n.toNat (by omega);omega
def abR(v:eg)(h0 : -9223372036854775808<=v.n)(h1:v.n<=9223372036854775807)(hr:bL v=true): (ye v).length<=82:=by
 unfold ye;split
 ·have:=adu v.n h0 h1;omega
 split
 ·rename_i h1 h2;unfold bL at hr;rw[if_neg (by omega),if_neg (by omega),if_pos h2]at hr;simp only[kX,aF,decide_eq_true_eq]at hr;have:=LA v.s;simp only[tF,List.length_cons,List.length_append,List.length_nil];omega
 split
 ·split<;>simp[mc,kE]
 ·simp[nN]
def Ic(w:Int × aJ)(lvl:Int): (oQ w lvl).length<=w.2.length+2:=by
 unfold oQ;split<;>simp
def OQ(op:Int): (cV op).sign.length<=3:=by
 unfold cV;cases h:gO.find? (fun b=>b.op==op)with
 | none=>simp
 | some b =>
   have:=fK h;simp only[gO,List.mem_cons,List.not_mem_nil,or_false]at this;rcases this with rfl|rfl|rfl|rfl|rfl|rfl|rfl|rfl|rfl|rfl|rfl|rfl<;>simp
def vx {op : Int} {v : eg} {s : aJ} {l : List Expr} (h : cA (.mk op v s l) = true) :
    (op=1/\l=[]/\s=[]/\bL v=true/\(v.kind≠1\/0<=v.n))\/(op=2/\l=[]/\v=v0/\gE s=true)\/(op=3/\v=v0/\s=[]/\ ∃ a,l=[a]/\cA a=true) \/
    (op=16/\v=v0/\s=[]/\ ∃ a b c,l=[a,b,c]/\cA a=true/\cA b=true/\cA c=true) \/
    (4<=op/\op<=15/\v=v0/\s=[]/\1<=(cV op).level/\(cV op).level<=5/\dc op=(cV op).level/\(cV op).op=op/\(cV op) ∈ gO/\ ∃ a b,l=[a,b]/\cA a=true/\cA b=true):=by
 simp only[cA,aF,decide_eq_true_eq]at h;obtain⟨h1,h2⟩:=h;by_cases o1:op=1
 ·left;rw[if_pos o1]at h2;simp only[aF,decide_eq_true_eq,dB]at h2;have:jJ op=0:=by unfold jJ;rw[if_pos (.inl o1)]
  exact⟨o1,dS.1 (by omega),h2.1.1,h2.1.2,h2.2⟩
 rw[if_neg o1]at h2;by_cases o2:op=2
 ·right;left;rw[if_pos o2]at h2;simp only[aF,decide_eq_true_eq]at h2;have:jJ op=0:=by unfold jJ;rw[if_pos (.inr o2)]
  exact⟨o2,dS.1 (by omega),h2.1,h2.2⟩
 rw[if_neg o2]at h2;simp only[aF,decide_eq_true_eq]at h2;obtain⟨⟨h3,h4⟩,h5⟩:=h2;by_cases o3:op=3
 ·right;right;left;have:jJ op=1:=by unfold jJ;rw[if_neg (by omega),if_pos o3]
  match l,h1,h5 with
  | [a],_,h5=>simp only[tj,Bool.and_true]at h5;exact⟨o3,h3,h4,a,rfl,h5⟩
  | [],h1,_=>simp at h1;omega
  | _::_::_,h1,_=>simp at h1;omega
 by_cases o4:op=16
 ·right;right;right;left;have:jJ op=3:=by unfold jJ;rw[if_neg (by omega),if_neg o3,if_pos o4]
  match l,h1,h5 with
  | [a,b,c],_,h5=>simp only[tj,Bool.and_true,aF]at h5;exact⟨o4,h3,h4,a,b,c,rfl,h5.1,h5.2.1,h5.2.2⟩
  | [],h1,_=>simp at h1;omega
  | [_],h1,_=>simp at h1;omega
  | [_,_],h1,_=>simp at h1;omega
  | _::_::_::_::_,h1,_=>simp at h1;omega
 ·right;right;right;right;have hc:jJ op=if 0<(cV op).level then 2 else -1:=by unfold jJ;rw[if_neg (by omega),if_neg o3,if_neg o4]
  have hlv:0<(cV op).level:=by
   by_cases h:0<(cV op).level
   ·exact h
   ·rw[if_neg h]at hc;omega
  rw[if_pos hlv]at hc;have OS:dc op=(cV op).level:=by unfold dc;rw[if_neg o4,if_neg o3,if_neg (by omega)]
  have hf:(cV op).op=op/\cV op ∈ gO:=by
   unfold cV at hlv ⊢;cases hq:gO.find? (fun b=>b.op==op)with
   | none=>rw[hq]at hlv;simp at hlv
   | some b =>
     have h1:=eX hq;exact⟨by simpa using h1,fK hq⟩
  have hb:4<=op/\op<=15/\(cV op).level<=5:=by
   obtain⟨q1,q2⟩:=hf;generalize cV op=b at q1 q2;simp only[gO,List.mem_cons,List.not_mem_nil,or_false]at q2;rcases q2 with rfl|rfl|rfl|rfl|rfl|rfl|rfl|rfl|rfl|rfl|rfl|rfl<;>(dsimp only at q1 ⊢;omega)
  match l,h1,h5 with
  | [a,b],_,h5=>simp only[tj,Bool.and_true,aF]at h5;exact⟨hb.1,hb.2.1,h3,h4,by omega,hb.2.2,OS,hf.1,hf.2,a,b,rfl,h5.1,h5.2⟩
  | [],h1,_=>simp at h1;omega
  | [_],h1,_=>simp at h1;omega
  | _::_::_::_,h1,_=>simp at h1;omega
def Bm{x:Expr}(h:cA x=true): 0<=dc x.op:=by
 obtain⟨op,v,s,l⟩:=x;rcases vx h with⟨rfl,_⟩|⟨rfl,_⟩|⟨rfl,_⟩|⟨rfl,_⟩|⟨_,_,_,_,h1,_,h2,_⟩
 ·show 0<=dc 1;decide
 ·show 0<=dc 2;decide
 ·show 0<=dc 3;decide
 ·show 0<=dc 16;decide
 ·show 0<=dc op;omega
def Ie{x:Expr}{lv:Int}(h:¬ dc x.op<lv): fq x lv=cJ x:=by unfold fq oQ;exact if_neg h
def OU{x:Expr}{lv:Int}(h:dc x.op<lv): fq x lv=40::(cJ x++[41]):=by unfold fq oQ;exact if_pos h
def abS{s:aJ}(h:gE s=true): s.length<=16:=by
 simp only[gE,aF,decide_eq_true_eq]at h;exact h.1.2
def Cb(x:Expr): cA x=true->ic x->(cJ x).length<=110*eK x:=by
 induction x using Expr.ind with
 | h op v s l ih =>
   intro hr hx;simp only[ic]at hx;obtain⟨_,_,hv1,VV,hl⟩:=hx
   have key:∀ y ∈ l,cA y=true-> ∀ lvl,(oQ (dc y.op,cJ y) lvl).length<=110*eK y+2:=fun y hy Y4 lvl=>by
    have:=ih y hy Y4 (Cm hl hy);have:=Ic (dc y.op,cJ y) lvl;dsimp only at this;omega
   have ND:=OQ op;rcases vx hr with⟨rfl,rfl,rfl,h1,_⟩|⟨rfl,rfl,rfl,h1⟩|⟨rfl,rfl,rfl,a,rfl,ha⟩|⟨rfl,rfl,rfl,a,b,c,rfl,ha,hb,hc⟩|⟨o1,o2,rfl,rfl,_,_,_,_,_,a,b,rfl,ha,hb⟩
   ·have:=abR v hv1 VV h1;simp only[cJ,pD,if_true,eK];omega
   ·have:=abS h1;simp[cJ,pD,eK];omega
   ·have:=key a (by simp) ha 6;simp[cJ,tH,pD,eK,nD];omega
   ·have k1:=key a (by simp) ha 0;have k2:=key b (by simp) hb 0;have k3:=key c (by simp) hc 0;simp[cJ,tH,pD,eK,nD,tG,pU,yf];omega
   ·have k1:=key a (by simp) ha (if(cV op).level=3 then 4 else(cV op).level);have k2:=key b (by simp) hb ((cV op).level+1)
    have:cJ (.mk op v0 [] [a,b])=oQ (dc a.op,cJ a) (if(cV op).level=3 then 4 else(cV op).level)++[32]++(cV op).sign++[32]++oQ (dc b.op,cJ b) ((cV op).level+1):=by
     simp only[cJ,tH,pD];rw[if_neg (by omega),if_neg (by omega),if_neg (by omega),if_neg (by omega)];rfl
    rw[this];simp only[List.length_append,List.length_cons,List.length_nil,eK,nD];omega
def Y5(x:Expr)(hr:cA x=true)(hx:ic x)(lvl:Int): (fq x lvl).length<=110*eK x+2:=by
 have:=Cb x hr hx;have h2:=Ic (dc x.op,cJ x) lvl;dsimp only at h2;unfold fq;omega
set_option maxHeartbeats 2000000 in
def NG(x:Expr): cA x=true->ic x->eK x<=2 ^ 30-> ∀ lvl:Int,ai Tryz.prog gB [aL x,I lvl] (.str (fq x lvl)):=by
 induction x using Expr.ind with
 | h op v s l ih =>
   intro hr hx hz;have hx0:=hx;have Wt:=Bm hr;have aaB:=Cb _ hr hx;simp only[ic]at hx;obtain⟨hs,hvs,hv1,VV,hl⟩:=hx;simp only[eK]at hz aaB;have hL:=Nn op
   have CM:∀ y ∈ l,cA y=true-> ∀ lvl,ai Tryz.prog gB [aL y,I lvl] (.str (fq y lvl))/\(fq y lvl).length<=2 ^ 40:=fun y hy Y4 lvl=>by
    have h1:=wO hy;refine⟨ih y hy Y4 (Cm hl hy) (by omega) lvl,?_⟩;have:=Y5 y Y4 (Cm hl hy) lvl;omega
   have Ig:∀ lvl:Int,¬ dc op<lvl->ai Tryz.prog gB [aL (.mk op v s l),I lvl] (.str (cJ (.mk op v s l))):=by
    intro lvl Wu;rcases vx hr with⟨rfl,rfl,rfl,h1,_⟩|⟨rfl,rfl,rfl,h1⟩|⟨rfl,rfl,rfl,a,rfl,ha⟩|⟨rfl,rfl,rfl,a,b,c,rfl,ha,hb,hc⟩|⟨o1,o2,rfl,rfl,Y6,lv5,OS,_,_,a,b,rfl,ha,hb⟩
    ·have hvl : v.s.length <= 2 ^ 38 := by
      unfold bL at h1;split at h1
      ·simp only[aF,decide_eq_true_eq]at h1;rw[h1.2];simp
      split at h1
      ·simp only[decide_eq_true_eq]at h1;rw[h1];simp
      split at h1
      ·simp only[kX,aF,decide_eq_true_eq]at h1;omega
      split at h1
      ·simp only[aF,decide_eq_true_eq]at h1;rw[h1.1];simp
      ·cases h1
     have ht:=aaA v hv1 VV hvl;rw[show cJ (.mk 1 v [] [])=ye v from by simp[cJ,pD]];generalize ye v=tv at *;generalize dc 1=lv at *;simp only[iJ]at ht;rw[aR];refine ai.aG (lq (by simp) ?_) (by simp);unfold kM aP;intro Q au aA aB;repeat' first|refine aq ?_|refine aC hL ?_|refine aC ht ?_|refine ak ?_ ?_<;>intro hw<;>try omega|fail
     all_goals first|exact aM rfl rfl|exact aY
    ·rw[show cJ (.mk 2 v0 s [])=s from by simp[cJ,pD]];generalize dc 2=lv at *;rw[aR];refine ai.aG (lq (by simp) ?_) (by simp);unfold kM aP;intro Q au aA aB;repeat' first|refine aq ?_|refine aC hL ?_|refine ak ?_ ?_<;>intro hw<;>try omega|fail
     all_goals first|exact aM rfl rfl|exact aY
    ·obtain⟨i1,i2⟩:=CM a (by simp) ha 6;rw[show cJ (.mk 3 v0 [] [a])=45::fq a 6 from by simp[cJ,tH,pD,fq]];generalize fq a 6=t1 at *;generalize dc 3=lv at *;rw[aR]at i1;rw[aR];refine ai.aG (lq (by simp) ?_) (by simp);unfold kM aP;intro Q au aA aB;repeat' first|refine aq ?_|refine aC hL ?_|refine aC i1 ?_|refine ak ?_ ?_<;>intro hw<;>try omega|fail
     all_goals first|exact aM rfl rfl|exact aY
    ·obtain⟨i1,i2⟩:=CM a (by simp) ha 0;obtain⟨j1,j2⟩:=CM b (by simp) hb 0;obtain⟨k1,k2⟩:=CM c (by simp) hc 0;rw[show cJ (.mk 16 v0 [] [a,b,c])=tG++fq a 0++pU++fq b 0++yf++fq c 0 from by simp[cJ,tH,pD,fq]];generalize fq a 0=t1 at *;generalize fq b 0=t2 at *;generalize fq c 0=t3 at *;generalize dc 16=lv at *;rw[aR]at i1 j1 k1;rw[aR];refine ai.aG (lq (by simp) ?_) (by simp);unfold kM aP;intro Q au aA aB;repeat' first|simp (disch:=omega) only[go_sem,au,aA,aB,fP,show(2:Int).toNat=2 from rfl]|refine aq ?_|refine aC hL ?_|refine aC i1 ?_|refine aC j1 ?_|refine aC k1 ?_|refine ak ?_ ?_<;>intro hw<;>try omega|fail
     all_goals first|(refine aM ?_ rfl;simp[tG,pU,yf];done)|exact aY
    ·obtain⟨i1,i2⟩:=CM a (by simp) ha (if(cV op).level=3 then 4 else(cV op).level);obtain⟨j1,j2⟩:=CM b (by simp) hb ((cV op).level+1);have ND:=HQ op;have o9:=OQ op
     have hW:cJ (.mk op v0 [] [a,b])=fq a (if(cV op).level=3 then 4 else(cV op).level)++[32]++(cV op).sign++[32]++fq b ((cV op).level+1):=by
      simp only[cJ,tH,pD];rw[if_neg (by omega),if_neg (by omega),if_neg (by omega),if_neg (by omega)];rfl
     rw[hW];rw[OS]at hL Wu;clear hW OS aaB Wt;generalize (cV op).sign=sg at *;generalize (cV op).level=lv at *;rw[aR]at i1 j1;rw[aR];by_cases h3:lv=3
     ·subst h3;simp only[if_true]at i1 i2 ⊢;generalize fq a 4=t1 at *;generalize fq b (3+1)=t2 at *;simp only[Int.reduceAdd]at j1;refine ai.aG (lq (by simp) ?_) (by simp);unfold kM aP;intro Q au aA aB;repeat' first|simp (disch:=omega) only[go_sem,au,aA,aB,fP,Int.reduceAdd]|refine aq ?_|refine aC hL ?_|refine aC i1 ?_|refine aC j1 ?_|refine aC ND ?_|refine ak ?_ ?_<;>intro hw<;>try omega|fail
      all_goals first|(refine aM ?_ rfl;simp;done)|exact aY
     ·simp only[if_neg h3]at i1 i2 ⊢;generalize fq a lv=t1 at *;generalize fq b (lv+1)=t2 at *;refine ai.aG (lq (by simp) ?_) (by simp);unfold kM aP;intro Q au aA aB;repeat' first|simp (disch:=omega) only[go_sem,au,aA,aB,fP]|refine aq ?_|refine aC hL ?_|refine aC i1 ?_|refine aC j1 ?_|refine aC ND ?_|refine ak ?_ ?_<;>intro hw<;>try omega|fail
      all_goals first|(refine aM ?_ rfl;simp;done)|exact aY
   intro lvl;by_cases Wu:dc op<lvl
   ·have h0:=Ig 0 (by show ¬ dc op<0;have:0<=dc op:=Wt;omega);have e:fq (.mk op v s l) lvl=40::(cJ (.mk op v s l)++[41]):=OU (x:= .mk op v s l) Wu;rw[e];have hlw:(cJ (.mk op v s l)).length<=2 ^ 40:=by omega
    clear e aaB Ig;generalize cJ (.mk op v s l)=t at *;generalize dc op=lv at *;simp only[aL]at h0 ⊢;refine ai.aG (lq (by simp) ?_) (by simp);unfold kM aP;intro Q au aA aB;repeat' first|refine aq ?_|refine aC hL ?_|refine aC h0 ?_|refine ak ?_ ?_<;>intro hw<;>try omega|fail
    all_goals first|(refine aM ?_ rfl;simp;done)|exact aY
   ·have e:fq (.mk op v s l) lvl=cJ (.mk op v s l):=Ie (x:= .mk op v s l) Wu;rw[e];exact Ig lvl Wu
def Jx(x:Expr)(hr:cA x=true)(hx:ic x)(hz:eK x<=2 ^ 30)(lvl:Int): ai Tryz.prog sw [aL x,I lvl] (.str (fq x lvl)):=by
 have h:=NG x hr hx hz lvl;generalize fq x lvl=t at *;rw[aR]at h ⊢;refine ai.aG (Ox (by simp) ?_) (by simp);unfold EO aP;intro Q au aA aB;repeat' first|refine aq ?_|refine aC h ?_|refine ak ?_ ?_<;>intro hw<;>try omega|fail
 all_goals exact aM rfl rfl
def mG(x:Expr): Bool:=decide (200<(cJ x).length)
def Cc(x:Expr): aJ × Int:=if cA x=false then([],2)else if 12<i_ x then([],12)else if mG x=true then([],5)else (cJ x,0)
def Wv{x:Expr}(hr:cA x=true): fq x 0=cJ x:=by
 have:=Bm hr;exact Ie (by omega)
def Ih(x:Expr)(hx:ic x)(hz:eK x<=2 ^ 30): ai Tryz.prog pJ [aL x] (.bX [.str (Cc x).1,I (Cc x).2]):=by
 have h1:=Fz x hx (by omega);have h2:=HU x (by omega);have h3:=fun hr=>NG x hr hx hz 0;have hT:Cc x=if cA x=false then([],2)else if 12<i_ x then([],12)else if mG x=true then([],5)else (cJ x,0):=rfl
 rw[hT];unfold mG;cases hr:cA x with
 | false =>
   rw[if_pos rfl];rw[hr]at h1;rw[aR]at h1 ⊢;refine ai.aG (I1 (by simp) ?_) (by simp);unfold Dl aP;intro Q au aA aB;repeat' first|refine aq ?_|refine aC h1 ?_|refine ak ?_ ?_<;>intro hw<;>try omega|fail
   all_goals exact aT rfl rfl
 | true =>
   have h3:=h3 hr;rw[Wv hr]at h3;have hlen:=Cb x hr hx;rw[if_neg (by simp)];rw[hr]at h1;generalize cJ x=t at *;generalize i_ x=d at *;rw[aR]at h1 h2 h3 ⊢;refine ai.aG (I1 (by simp) ?_) (by simp);unfold Dl aP;intro Q au aA aB;by_cases hd:12<d
   ·simp only[if_pos hd]at au aA aB;repeat' first|refine aq ?_|refine aC h1 ?_|refine aC h2 ?_|refine ak ?_ ?_<;>intro hw<;>try omega|fail
    all_goals first|exact aT rfl rfl|exact aY
   ·simp only[if_neg hd,decide_eq_true_eq]at au aA aB;by_cases hb:200<t.length
    ·simp only[if_pos hb]at au aA aB;repeat' first|refine aq ?_|refine aC h1 ?_|refine aC h2 ?_|refine aC h3 ?_|refine ak ?_ ?_<;>intro hw<;>try omega|fail
     all_goals first|exact aT rfl rfl|exact aY
    ·simp only[if_neg hb]at au aA aB;repeat' first|refine aq ?_|refine aC h1 ?_|refine aC h2 ?_|refine aC h3 ?_|refine ak ?_ ?_<;>intro hw<;>try omega|fail
     all_goals first|exact aT rfl rfl|exact aY
abbrev TB: TypeId:=183
abbrev TU: TypeId:=5
def pV(T:TypeId)(σ : aj)(l:Nat)(s:aJ): Prop:= ∃ p v,σ[l]? = some (.bF (some T) [p,v])/\(p = .iN\/p = .ref l 0) /\
 ((s=[]/\v = .ae)\/(s≠[]/\ ∃ k,k≠l/\v = .own E1 k s.length 0 s.length/\σ[k]? = some (.cn (some TU) E1 (nC s))))
def jg(l:Nat)(σ σ':aj): Prop:=σ.length<=σ'.length/\ ∀ j o,σ[j]? = some o->j≠l->(∀ T xs,o≠ .cn (some T) E1 xs)->σ'[j]? = some o
def jg.refl(l:Nat)(σ : aj): jg l σ σ:=⟨Nat.le_refl _,fun _ _ h _ _=>h⟩
def dw{σ : aj}{l:Nat}{o:aX}(h : σ[l]? = some o): l < σ.length:=(aN.1 h).1
def adv : ∃ fn, Tryz.prog.funcs[226]? = some fn ∧ (fn.name == "runtime.NumGoroutine") = false ∧ fn.body.isNone = true ∧ Extern.findNext fn = none ∧ Extern.find fn = some Extern.AbiNoEscape.same :=
 ⟨_,Tryz.func226,by kernel_rfl,by kernel_rfl,by kernel_rfl,by kernel_rfl⟩
def LB(T:TypeId): Prop:=liesAt Tryz.prog Tryz.prog.depth T (2 / Tryz.prog.cellsOf T) 0 TB 1=true
def GV: LB TB:=by unfold LB;kernel_rfl
def Builder_copyCheck {T : TypeId} (hT : LB T) (σ : aj) (l : Nat) (p v : AV) (h : σ[l]? = some (.bF (some T) [p, v])) (hp : p = .iN \/ p = .ref l 0) :
    f_ Tryz.prog iq [.ref l 0] σ fun o σ'=>o = .ret (.bX [])/\σ' = σ.set l (.bF (some T) [.ref l 0,v]):=by
 have v7 : σ.set l (.bF (some T) [.ref l 0,v]) = σ\/p = .iN:=by
  rcases hp with rfl|rfl
  ·exact .inr rfl
  ·left;apply List.ext_getElem?;intro k;by_cases e:k=l
   ·subst e;rw[List.getElem?_set_self (dw h)];exact h.symm
   ·rw[aH (Ne.symm e)]
 refine zd (by simp) ?_;unfold qi aP;intro Q au aA aB;rcases hp with rfl|rfl
 ·repeat' first|simp (disch:=omega) only[go_sem,au,aA,aB,h]|refine aq ?_|refine ahG h (by simp) ?_|refine aeE adv ?_|refine ahH h hT ?_|refine ak ?_ ?_<;>intro hw<;>try omega|fail
  exact⟨by trivial,by trivial⟩
 ·rcases v7 with v7|v7
  ·repeat' first|simp (disch:=omega) only[go_sem,au,aA,aB,h]|refine aq ?_|refine ahI h ?_|refine ak ?_ ?_<;>intro hw<;>try omega|fail
   exact⟨rfl,v7.symm⟩
  ·cases v7
def Builder_Len{T:TypeId}(σ : aj)(l:Nat)(s:aJ)(h:pV T σ l s): f_ Tryz.prog pK [.ref l 0] σ fun o σ'=>o = .ret (I s.length)/\σ' = σ:=by
 obtain⟨p,v,h1,h2,h3⟩:=h;refine Fs (by simp) ?_;unfold wH aP;intro Q au aA aB;rcases h3 with⟨rfl,rfl⟩|⟨h3,k,h4,rfl,h5⟩
 ·repeat' first|simp (disch:=omega) only[go_sem,au,aA,aB,h1]|refine aq ?_|refine ak ?_ ?_<;>intro hw<;>try omega|fail
  exact⟨rfl,trivial⟩
 ·repeat' first|simp (disch:=omega) only[go_sem,au,aA,aB,h1]|refine aq ?_|refine ak ?_ ?_<;>intro hw<;>try omega|fail
  exact⟨rfl,trivial⟩
def Builder_WriteString {T : TypeId} (hT : LB T) (σ : aj) (l : Nat) (s t : aJ) (h : pV T σ l s) (hlen : s.length + t.length <= 2 ^ 38) :
    f_ Tryz.prog fF [.ref l 0,.str t] σ fun o σ'=>o = .ret (.bX [I t.length,.nS])/\pV T σ' l (s++t)/\jg l σ σ':=by
 obtain⟨p,v,h1,h2,h3⟩:=h;have hl:=dw h1;refine xQ (by simp) ?_;unfold pg aP;intro Q au aA aB;have gK:=Builder_copyCheck hT σ l p v h1 h2;have vy:(σ.set l (.bF (some T) [.ref l 0,v]))[l]? = some (.bF (some T) [.ref l 0,v]):=by simp[hl]
 have beside:∀ (o:aX),jg l σ (σ.set l o):=fun o=>⟨by simp,fun j o' hj hne _=>by rw[aH (Ne.symm hne)];exact hj⟩;rcases h3 with⟨rfl,rfl⟩|⟨h3,k,h4,rfl,h5⟩
 ·cases t with
  | nil =>
    repeat' first|simp (disch:=omega) only[go_sem,au,aA,aB,vy]|refine aq ?_|with_reducible refine cF gK ?_|refine ak ?_ ?_<;>intro hw<;>try omega|fail
    rintro o s ⟨rfl,rfl⟩;repeat' first|simp (disch:=omega) only[go_sem,au,aA,aB,vy,h_]|refine aq ?_|refine ak ?_ ?_<;>intro hw<;>try omega|fail
    exact⟨rfl,⟨_,_,vy,.inr rfl,.inl ⟨rfl,rfl⟩⟩,beside _⟩
  | cons c t =>
    simp only[List.length_nil,List.length_cons]at hlen;repeat' first|simp (disch:=omega) only[go_sem,au,aA,aB,vy]|refine aq ?_|with_reducible refine cF gK ?_|refine ak ?_ ?_<;>intro hw<;>try omega|fail
    rintro o s ⟨rfl,rfl⟩
    have Ii:∀ o,((σ.set l (.bF (some T) [.ref l 0,.ae]))++[o])[l]? = some (.bF (some T) [.ref l 0,.ae]):=fun o=>by
     rw[List.getElem?_append_left (by simpa using hl)];exact vy
    repeat' first|simp (disch:=omega) only[go_sem,au,aA,aB,vy,Ii,h_]|refine aq ?_|refine ak ?_ ?_<;>intro hw<;>try omega|fail
    rw[fA _ _ (by simpa using hl),h_];refine⟨rfl,⟨.ref l 0,.own E1 σ.length (t.length+1) 0 (t.length+1),?_,.inr rfl,.inr ⟨by simp,σ.length,by omega,by simp,?_⟩⟩,by simp,fun j o' hj hne _=>?_⟩
    ·rw[List.getElem?_append_left (by simpa using hl)];simp[hl]
    ·rw[bU (by simp)];simp
    ·rw[List.getElem?_append_left (by simpa using dw hj),aH (Ne.symm hne)];exact hj
 ·have hk:=dw h5;have Y7:∀ o,(σ.set l o)[k]? = some (.cn (some TU) E1 (nC s)):=fun o=>by rw[aH (Ne.symm h4)];exact h5
  repeat' first|simp (disch:=omega) only[go_sem,au,aA,aB,vy]|refine aq ?_|with_reducible refine cF gK ?_|refine ak ?_ ?_<;>intro hw<;>try omega|fail
  rintro o s' ⟨rfl,rfl⟩
  have Ii:∀ o,((σ.set l (.bF (some T) [.ref l 0,.own E1 k s.length 0 s.length])).set k o)[l]? = some (.bF (some T) [.ref l 0,.own E1 k s.length 0 s.length]):=fun o=>by
   rw[aH h4];exact vy
  repeat' first|simp (disch:=omega) only[go_sem,au,aA,aB,vy,Ii,Y7,h_]|refine aq ?_|refine ak ?_ ?_<;>intro hw<;>try omega|fail
  refine⟨rfl,⟨.ref l 0,.own E1 k (s.length+t.length) 0 (s.length+t.length),?_,.inr rfl,.inr ⟨by simp[h3],k,h4,by simp,?_⟩⟩,by simp,fun j o' hj hne DR=>?_⟩
  ·simp[hl]
  ·rw[aH (Ne.symm h4)];simp[hk]
  ·have FY:j≠k:=fun e=>by subst e;rw[h5]at hj;cases hj;exact DR _ _ rfl
   rw[aH (Ne.symm hne),aH (Ne.symm FY),aH (Ne.symm hne)];exact hj
def Builder_String{T:TypeId}(σ : aj)(l:Nat)(s:aJ)(h:pV T σ l s)(hs:s.length<=2 ^ 62): f_ Tryz.prog kr [.ref l 0] σ fun o σ'=>o = .ret (.str s)/\jg l σ σ':=by
 obtain⟨p,v,h1,h2,h3⟩:=h;refine BV (by simp) ?_;unfold sY aP;intro Q au aA aB;rcases h3 with⟨rfl,rfl⟩|⟨h3,k,h4,rfl,h5⟩
 ·repeat' first|simp (disch:=omega) only[go_sem,au,aA,aB,h1]|refine aq ?_|refine ak ?_ ?_<;>intro hw<;>try omega|fail
  exact⟨rfl,.refl _ _⟩
 ·have h0:0<s.length:=List.length_pos_iff.2 h3;repeat' first|simp (disch:=omega) only[go_sem,au,aA,aB,h1]|refine aq ?_|refine ahJ h5 (by simp) h0 ?_|refine af3 s h5 (by simp) rfl h3 hs rfl ?_|refine ak ?_ ?_<;>intro hw<;>try omega|fail
  refine⟨rfl,by simp,fun j o' hj hne DR=>?_⟩;have FY:j≠k:=fun e=>by subst e;rw[h5]at hj;cases hj;exact DR _ _ rfl
  rw[aH (Ne.symm FY)];exact hj
def pV.push{T:TypeId}{σ : aj}{l:Nat}{s:aJ}(h:pV T σ l s)(ρ : aj): pV T (σ++ ρ) l s:=by
 obtain⟨p,v,h1,h2,h3⟩:=h;refine⟨p,v,by rw[List.getElem?_append_left (dw h1)];exact h1,h2,?_⟩;rcases h3 with h3|⟨h3,k,h4,h5,h6⟩
 ·exact .inl h3
 ·exact .inr ⟨h3,k,h4,h5,by rw[List.getElem?_append_left (dw h6)];exact h6⟩
def pV.lt{T:TypeId}{σ : aj}{l:Nat}{s:aJ}(h:pV T σ l s): l < σ.length:=by
 obtain⟨p,v,h1,_⟩:=h;exact dw h1
def pV.adw{T:TypeId}{σ : aj}{l q:Nat}{s u:aJ}{i:Nat}(h:pV T σ l s)(hq : σ[q]? = some (.iY u i))(o:aX): pV T (σ.set q o) l s:=by
 obtain⟨p,v,h1,h2,h3⟩:=h;have n1:q≠l:=fun e=>by subst e;rw[hq]at h1;cases h1
 refine⟨p,v,by rw[aH n1];exact h1,h2,?_⟩;rcases h3 with h3|⟨h3,k,h4,h5,h6⟩
 ·exact .inl h3
 ·have n2:q≠k:=fun e=>by subst e;rw[hq]at h6;cases h6
  exact .inr ⟨h3,k,h4,h5,by rw[aH n2];exact h6⟩
def jg.trans{l:Nat}{σ1 σ2 σ3:aj}(h:jg l σ1 σ2)(k:jg l σ2 σ3): jg l σ1 σ3 :=
 ⟨cD h.1 k.1,fun j o h1 h2 h3=>k.2 j o (h.2 j o h1 h2 h3) h2 h3⟩
def jg.uo{l:Nat}{σ ρ σ2:aj}(h:jg l (σ++ ρ) σ2): jg l σ σ2 :=
 ⟨cD (by simp) h.1,fun j o h1 h2 h3=>h.2 j o (by rw[List.getElem?_append_left (dw h1)];exact h1) h2 h3⟩
def abT{n:Int}(h:0<=n)(h':n<=4294967295): cR .u32 n=n:=by
 show IntKind.wrap .u32 n=n;simp[IntKind.wrap,IntKind.bits,IntKind.signed];omega
def Builder_WriteByte {T : TypeId} (hT : LB T) (σ : aj) (l : Nat) (s : aJ) (c : UInt8) (k : Int) (hk : k = c.toNat) (h : pV T σ l s) (hlen : s.length <= 2 ^ 38) :
    f_ Tryz.prog ef [.ref l 0,.int .u8 k] σ fun o σ'=>o = .ret .nS/\pV T σ' l (s++[c])/\jg l σ σ':=by
 subst hk;obtain⟨p,v,h1,h2,h3⟩:=h;have hl:=dw h1;refine za (by simp) ?_;unfold qh aP;intro Q au aA aB;have gK:=Builder_copyCheck hT σ l p v h1 h2;have vy:(σ.set l (.bF (some T) [.ref l 0,v]))[l]? = some (.bF (some T) [.ref l 0,v]):=by simp[hl]
 rcases h3 with⟨rfl,rfl⟩|⟨h3,k,h4,rfl,h5⟩
 ·repeat' first|simp (disch:=omega) only[go_sem,au,aA,aB,vy]|refine aq ?_|with_reducible refine cF gK ?_|refine ak ?_ ?_<;>intro hw<;>try omega|fail
  rintro o s' ⟨rfl,rfl⟩
  have Ii:∀ o,((σ.set l (.bF (some T) [.ref l 0,.ae]))++[o])[l]? = some (.bF (some T) [.ref l 0,.ae]):=fun o=>by
   rw[List.getElem?_append_left (by simpa using hl)];exact vy
  repeat' first|simp (disch:=omega) only[go_sem,au,aA,aB,vy,Ii,h_]|refine aq ?_|refine ak ?_ ?_<;>intro hw<;>try omega|fail
  rw[fA _ _ (by simpa using hl),h_];refine⟨rfl,⟨.ref l 0,.own E1 σ.length 1 0 1,?_,.inr rfl,.inr ⟨by simp,σ.length,by omega,by simp,?_⟩⟩,by simp,fun j o' hj hne _=>?_⟩
  ·rw[List.getElem?_append_left (by simpa using hl)];simp[hl]
  ·rw[bU (by simp)];simp
  ·rw[List.getElem?_append_left (by simpa using dw hj),aH (Ne.symm hne)];exact hj
 ·have hk:=dw h5;have Y7:∀ o,(σ.set l o)[k]? = some (.cn (some TU) E1 (nC s)):=fun o=>by rw[aH (Ne.symm h4)];exact h5
  repeat' first|simp (disch:=omega) only[go_sem,au,aA,aB,vy]|refine aq ?_|with_reducible refine cF gK ?_|refine ak ?_ ?_<;>intro hw<;>try omega|fail
  rintro o s' ⟨rfl,rfl⟩
  have Ii:∀ o,((σ.set l (.bF (some T) [.ref l 0,.own E1 k s.length 0 s.length])).set k o)[l]? = some (.bF (some T) [.ref l 0,.own E1 k s.length 0 s.length]):=fun o=>by
   rw[aH h4];exact vy
  repeat' first|simp (disch:=omega) only[go_sem,au,aA,aB,vy,Ii,Y7,h_]|refine aq ?_|refine ak ?_ ?_<;>intro hw<;>try omega|fail
  refine⟨rfl,⟨.ref l 0,.own E1 k (s.length+1) 0 (s.length+1),?_,.inr rfl,.inr ⟨by simp,k,h4,by simp,?_⟩⟩,by simp,fun j o' hj hne DR=>?_⟩
  ·simp[hl]
  ·rw[aH (Ne.symm h4)];simp[hk]
  ·have FY:j≠k:=fun e=>by subst e;rw[h5]at hj;cases hj;exact DR _ _ rfl
   rw[aH (Ne.symm hne),aH (Ne.symm FY),aH (Ne.symm hne)];exact hj
def Sq (σ : aj) (k : Nat) (s : aJ) (c : UInt8) (hc : c.toNat < 128) (h : σ[k]? = some (.cn (some TU) E1 (nC s))) (hlen : s.length <= 2 ^ 38) :
    f_ Tryz.prog mR [.own E1 k s.length 0 s.length,.int .i32 c.toNat] σ fun o σ'=>o = .ret (.own E1 k (s.length+1) 0 (s.length+1))/\σ' = σ.set k (.cn (some TU) E1 (nC (s++[c]))):=by
 refine Bk (by simp) ?_;unfold sB aP;intro Q au aA aB;repeat' first|simp (disch:=omega) only[go_sem,au,aA,aB,h,abT]|refine aq ?_|refine ak ?_ ?_<;>intro hw<;>try omega|fail
 all_goals first|(refine⟨rfl,?_⟩;simp;done)|exact aY
def BE {T : TypeId} (hT : LB T) (σ : aj) (l : Nat) (s : aJ) (c : UInt8) (hc : c.toNat < 128) (h : pV T σ l s) (hs : s ≠ []) (hlen : s.length <= 2 ^ 38) :
    f_ Tryz.prog lQ [.ref l 0,.int .i32 c.toNat] σ fun o σ'=>(∃ r,o = .ret r)/\pV T σ' l (s++[c])/\jg l σ σ':=by
 obtain⟨p,v,h1,h2,h3⟩:=h;have hl:=dw h1;refine zf (by simp) ?_;unfold qj aP;intro Q au aA aB;have gK:=Builder_copyCheck hT σ l p v h1 h2;have vy:(σ.set l (.bF (some T) [.ref l 0,v]))[l]? = some (.bF (some T) [.ref l 0,v]):=by simp[hl]
 rcases h3 with⟨rfl,rfl⟩|⟨h3,k,h4,rfl,h5⟩
 ·exact absurd rfl hs
 ·have hk:=dw h5;have Y7:∀ o,(σ.set l o)[k]? = some (.cn (some TU) E1 (nC s)):=fun o=>by rw[aH (Ne.symm h4)];exact h5
  repeat' first|simp (disch:=omega) only[go_sem,au,aA,aB,vy]|refine aq ?_|with_reducible refine cF gK ?_|refine ak ?_ ?_<;>intro hw<;>try omega|fail
  rintro o s' ⟨rfl,rfl⟩;repeat' first|simp (disch:=omega) only[go_sem,au,aA,aB,vy]|refine aq ?_|with_reducible refine cF (Sq _ k s c hc (Y7 _) hlen) ?_|refine ak ?_ ?_<;>intro hw<;>try omega|fail
  rintro o s' ⟨rfl,rfl⟩
  have Ii:∀ o,((σ.set l (.bF (some T) [.ref l 0,.own E1 k s.length 0 s.length])).set k o)[l]? = some (.bF (some T) [.ref l 0,.own E1 k s.length 0 s.length]):=fun o=>by
   rw[aH h4];exact vy
  have h1a:∀ o o',(((σ.set l (.bF (some T) [.ref l 0,.own E1 k s.length 0 s.length])).set k o).set l o')[l]? = some o':=fun o o'=>by
   rw[List.getElem?_set_self (by simpa using hl)]
  repeat' first|simp (disch:=omega) only[go_sem,au,aA,aB,vy,Ii,h1a,Y7,h_]|refine aq ?_|refine ak ?_ ?_<;>intro hw<;>try omega|fail
  refine⟨⟨_,rfl⟩,⟨.ref l 0,.own E1 k (s.length+1) 0 (s.length+1),?_,.inr rfl,.inr ⟨by simp,k,h4,by simp,?_⟩⟩,by simp,fun j o' hj hne DR=>?_⟩
  ·simp[hl]
  ·rw[aH (Ne.symm h4)];simp[hk]
  ·have FY:j≠k:=fun e=>by subst e;rw[h5]at hj;cases hj;exact DR _ _ rfl
   rw[aH (Ne.symm hne),aH (Ne.symm FY),aH (Ne.symm hne)];exact hj
set_option maxHeartbeats 1000000 in
def X1(s:aJ)(ha:∀ i,i<s.length->(s.getD i 0).toNat<128)(hs:s.length<=2 ^ 36): ai Tryz.prog vN [.str s] (.str (tF s)):=by
 refine ai.aG (R_ (by simp) ?_) rfl;unfold Jj aP;intro Q au aA aB;have hb0:pV TB [.bF (some TB) [.iN,.ae]] 0 []:=⟨_,_,rfl,.inl rfl,.inl ⟨rfl,rfl⟩⟩;repeat' first|refine aq ?_|with_reducible refine cF (Builder_WriteByte GV _ 0 _ 34 34 rfl hb0 (by simp)) ?_|refine ak ?_ ?_<;>intro hw<;>try omega|fail
 rintro o σ ⟨rfl,hb1,_⟩;repeat' first|refine aq ?_|refine ak ?_ ?_<;>intro hw<;>try omega|fail
 generalize hq : σ.length=q at *;with_reducible refine bn [5,9,10,11,12,13,14,15,16,17,18,19] (fun x:Nat × aj=>[]) (fun x=>x.2) (fun x=>x.1<=s.length/\pV TB x.2 0 (34::(s.take x.1).flatMap kG)/\x.2[q]? = some (.iY s x.1)) (fun x=>s.length-x.1) (0,σ++[.iY s 0]) ?_ ?_ ?_ ?_
 ·exact⟨bP _,by simpa using hb1.push _,by rw[<-hq];simp⟩
 ·rfl
 ·exact at_
 clear hb1 hb0 hq;rintro⟨i,σ⟩ r ⟨h1,h2,h3⟩;dsimp only at h1 h2 h3;have hql:=LA (s.take i);rw[List.length_take]at hql;have Br:(34::(s.take i).flatMap kG).length<=2 ^ 37+1:=by rw[List.length_cons];omega
 by_cases hi:i<s.length
 ·have hai:=ha i hi;have ht:=QM hi;have hb:=h2.adw h3 (.iY s (i+1));have hne:(34::(s.take i).flatMap kG:aJ)≠[]:=by simp
  have h3':(σ.set q (.iY s (i+1)))[q]? = some (.iY s (i+1)):=by rw[List.getElem?_set_self (dw h3)]
  have hq0:q≠0:=fun e=>by
   obtain⟨p,v,k1,_⟩:=h2;rw[e,k1]at h3;cases h3
  generalize (s.take i).flatMap kG=acc at *;by_cases hc:(s.getD i 0).toNat=34\/(s.getD i 0).toNat=92
  ·rw[kG,if_pos hc]at ht;repeat' first|simp (disch:=omega) only[go_sem,au,aA,aB,h3]|refine aq ?_|with_reducible refine cF (Builder_WriteByte GV _ 0 _ 92 92 rfl hb (by omega)) ?_|refine ak ?_ ?_<;>intro hw<;>try omega|fail
   all_goals first
    | (rintro o σ1 ⟨rfl, hb1, bY⟩
       have h3a:=bY.2 q _ h3' hq0 (fun _ _=>by simp);repeat' first|refine aq ?_|with_reducible refine cF (BE GV _ 0 _ (s.getD i 0) hai hb1 (by simp) (by simp only[List.length_append,List.length_cons,List.length_nil];omega)) ?_|refine ak ?_ ?_<;>intro hw<;>try omega|fail
       rintro o σ2 ⟨⟨rr,rfl⟩,hb2,j8⟩;repeat' first|refine aq ?_|refine ak ?_ ?_<;>intro hw<;>try omega|fail
       refine⟨(i+1,σ2),⟨?_,?_,?_⟩,?_,rfl,bJ,at_⟩
       ·dsimp only;omega
       ·dsimp only;rw[ht];simpa using hb2
       ·exact j8.2 q _ h3a hq0 (fun _ _=>by simp)
       ·dsimp only;omega)
    | exact aY
  ·rw[kG,if_neg hc]at ht;repeat' first|simp (disch:=omega) only[go_sem,au,aA,aB,h3]|refine aq ?_|with_reducible refine cF (BE GV _ 0 _ (s.getD i 0) hai hb hne (by omega)) ?_|refine ak ?_ ?_<;>intro hw<;>try omega|fail
   all_goals first
    | (rintro o σ2 ⟨⟨rr, rfl⟩, hb2, j8⟩
       repeat' first|refine aq ?_|refine ak ?_ ?_<;>intro hw<;>try omega|fail
       refine⟨(i+1,σ2),⟨?_,?_,?_⟩,?_,rfl,bJ,at_⟩
       ·dsimp only;omega
       ·dsimp only;rw[ht];simpa using hb2
       ·exact j8.2 q _ h3' hq0 (fun _ _=>by simp)
       ·dsimp only;omega)
    | exact aY
 ·have YJ:i=s.length:=by omega
  have uz:s.take i=s:=br (by omega);rw[uz]at h2 Br;simp only[List.length_cons]at Br;repeat' first|simp (disch:=omega) only[go_sem,au,aA,aB,h3]|refine aq ?_|with_reducible refine cF (Builder_WriteByte GV _ 0 _ 34 34 rfl h2 (by simp only[List.length_cons];omega)) ?_|refine ak ?_ ?_<;>intro hw<;>try omega|fail
  rintro o σ1 ⟨rfl,hb1,_⟩;repeat' first|refine aq ?_|with_reducible refine cF (Builder_String _ 0 _ hb1 (by simp only[List.length_append,List.length_cons,List.length_nil];omega)) ?_|refine ak ?_ ?_<;>intro hw<;>try omega|fail
  rintro o σ2 ⟨rfl,_⟩;repeat' first|refine aq ?_|refine ak ?_ ?_<;>intro hw<;>try omega|fail
  refine aM ?_ rfl;simp[tF]
def Ww{s:aJ}(h:kX s=true): ∀ i,i<s.length->(s.getD i 0).toNat<128:=by
 intro i hi;simp only[kX,aF,bx]at h;have:=h.2 (s.getD i 0) (by rw[aE,aQ hi];exact fY hi);rw[B6]at this;omega
def aaC(v:eg)(h0 : -9223372036854775808<=v.n)(h1:v.n<=9223372036854775807)(hr:bL v=true): ai Tryz.prog C1 [iJ v] (.bX [.str (ye v),I 0]):=by
 obtain⟨k,n,s⟩:=v;dsimp only at h0 h1;have c1:=nc k n s h0 h1;rw[hr]at c1;simp only[mX,if_true]at c1;have c2:=strconv_Itoa n h0 h1
 have c3:k=2->ai Tryz.prog vN [.str s] (.str (tF s)):=fun hk=>by
  unfold bL at hr;dsimp only at hr;rw[if_neg (by omega),if_neg (by omega),if_pos hk]at hr;simp only[aF]at hr;have hp:=hr.2;refine X1 s (Ww hp) ?_;simp only[kX,aF,decide_eq_true_eq]at hp;omega
 have c4:=fun b=>strconv_FormatBool b;clear hr;have hS:ye ⟨k,n,s⟩=if k=1 then Lib.itoa n else if k=2 then tF s else if k=3 then(if n=1 then mc else kE)else nN:=rfl
 rw[hS];clear hS;generalize Lib.itoa n=t1 at *;generalize tF s=t2 at *;simp only[iJ];by_cases k2:k=2
 ·have c5:=c3 k2;clear c3;subst k2;refine ai.aG (I9 (by simp) ?_) rfl;unfold Ds aP;intro Q au aA aB;repeat' first|refine aq ?_|refine aC c1 ?_|refine aC c5 ?_|refine ak ?_ ?_<;>intro hw<;>try omega|fail
  all_goals (refine aT ?_ rfl;simp)
 ·clear c3;refine ai.aG (I9 (by simp) ?_) rfl;unfold Ds aP;intro Q au aA aB;repeat' first|refine aq ?_|refine aC c1 ?_|refine aC c2 ?_|refine aC (c4 _) ?_|refine ak ?_ ?_<;>intro hw<;>try omega|fail
  all_goals (refine aT ?_ rfl;simp_all[mc,kE,nN])
end Go.Proofs.YtmbgnaoilncbnaaGreatDoor
