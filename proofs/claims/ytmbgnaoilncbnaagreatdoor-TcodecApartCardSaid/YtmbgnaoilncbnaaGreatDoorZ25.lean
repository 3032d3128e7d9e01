/- Part of a proof: see Root. -/
import Derived.Test.YtmbgnaoilncbnaaGreatDoorZ24
set_option linter.unnecessarySimpa false
set_option linter.unusedSimpArgs false
set_option linter.unusedVariables false
namespace Go.Proofs.YtmbgnaoilncbnaaGreatDoor
open Go.AM
set_option maxRecDepth 4000
def oQ: aH:=[105,102,32]
def kZ: aH:=[32,116,104,101,110,32]
def qa: aH:=[32,101,108,115,101,32]
def iM(w:Int × aH)(lvl:Int): aH:=if w.1<lvl then 40::(w.2++[41])else w.2
def jt(op:Int)(v:dy)(s:aH)(ws:List (Int × aH)): aH :=
 if op=1 then qM v else if op=2 then s
 else if op=3 then 45::iM (ws.getD 0 default) 6
 else if op=16 then oQ++iM (ws.getD 0 default) 0++kZ++iM (ws.getD 1 default) 0++qa++iM (ws.getD 2 default) 0
 else iM (ws.getD 0 default) (if(bt op).level=3 then 4 else(bt op).level)++[32]++(bt op).sign++[32]++iM (ws.getD 1 default) ((bt op).level+1)
mutual
def bF: Expr→aH
 | .mk op v s l=>jt op v s (me l)
def me: List Expr→List (Int × aH)
 | []=>[]
 | x::r=>(bR x.op,bF x)::me r
end
def dB(x:Expr)(lvl:Int): aH:=iM (bR x.op,bF x) lvl
theorem Zq(n:Int)(h0 : -9223372036854775808≤n)(h1:n≤9223372036854775807): (Lib.itoa n).length≤21:=by
 unfold Lib.itoa
 split
 ·have:=Er 19 n.natAbs (by omega)
  rw[List.length_cons];omega
 ·have:=Er 19 n.toNat (by omega)
  omega
theorem XR(v:dy)(h0 : -9223372036854775808≤v.n)(h1:v.n≤9223372036854775807)(hr:bS v=true): (qM v).length≤82:=by
 unfold qM
 split
 ·have:=Zq v.n h0 h1;omega
 split
 ·rename_i h1 h2
  unfold bS at hr
  rw[if_neg (by omega),if_neg (by omega),if_pos h2]at hr
  simp only[ij,Bool.and_eq_true,decide_eq_true_eq]at hr
  have:=HM v.s
  simp only[kY,List.length_cons,List.length_append,List.length_nil];omega
 split
 ·split<;>simp[jO,iL]
 ·simp[lq]
theorem Es(w:Int × aH)(lvl:Int): (iM w lvl).length≤w.2.length+2:=by
 unfold iM;split<;>simp
theorem Kz(op:Int): (bt op).sign.length≤3:=by
 unfold bt
 cases h:dL.find? (fun b=>b.op==op)with
 | none=>simp
 | some b =>
   have:=List.mem_of_find?_eq_some h
   simp only[dL,List.mem_cons,List.not_mem_nil,or_false]at this
   rcases this with rfl|rfl|rfl|rfl|rfl|rfl|rfl|rfl|rfl|rfl|rfl|rfl<;>simp
theorem ju{op:Int}{v:dy}{s:aH}{l:List Expr}(h:bC (.mk op v s l)=true):
 (op=1∧l=[]∧s=[]∧bS v=true∧(v.kind≠1∨0≤v.n))∨(op=2∧l=[]∧v=v0∧eK s=true)∨(op=3∧v=v0∧s=[]∧ ∃ a,l=[a]∧bC a=true) ∨
 (op=16∧v=v0∧s=[]∧ ∃ a b c,l=[a,b,c]∧bC a=true∧bC b=true∧bC c=true) ∨
 (4≤op∧op≤15∧v=v0∧s=[]∧1≤(bt op).level∧(bt op).level≤5∧bR op=(bt op).level∧(bt op).op=op∧(bt op) ∈ dL∧ ∃ a b,l=[a,b]∧bC a=true∧bC b=true):=by
 simp only[bC,Bool.and_eq_true,decide_eq_true_eq]at h
 obtain⟨h1,h2⟩:=h
 by_cases o1:op=1
 ·left
  rw[if_pos o1]at h2
  simp only[Bool.and_eq_true,decide_eq_true_eq,Bool.or_eq_true]at h2
  have:gP op=0:=by unfold gP;rw[if_pos (.inl o1)]
  exact⟨o1,List.length_eq_zero_iff.1 (by omega),h2.1.1,h2.1.2,h2.2⟩
 rw[if_neg o1]at h2
 by_cases o2:op=2
 ·right;left
  rw[if_pos o2]at h2
  simp only[Bool.and_eq_true,decide_eq_true_eq]at h2
  have:gP op=0:=by unfold gP;rw[if_pos (.inr o2)]
  exact⟨o2,List.length_eq_zero_iff.1 (by omega),h2.1,h2.2⟩
 rw[if_neg o2]at h2
 simp only[Bool.and_eq_true,decide_eq_true_eq]at h2
 obtain⟨⟨h3,h4⟩,h5⟩:=h2
 by_cases o3:op=3
 ·right;right;left
  have:gP op=1:=by unfold gP;rw[if_neg (by omega),if_pos o3]
  match l,h1,h5 with
  | [a],_,h5=>simp only[pW,Bool.and_true]at h5;exact⟨o3,h3,h4,a,rfl,h5⟩
  | [],h1,_=>simp at h1;omega
  | _::_::_,h1,_=>simp at h1;omega
 by_cases o4:op=16
 ·right;right;right;left
  have:gP op=3:=by unfold gP;rw[if_neg (by omega),if_neg o3,if_pos o4]
  match l,h1,h5 with
  | [a,b,c],_,h5=>simp only[pW,Bool.and_true,Bool.and_eq_true]at h5;exact⟨o4,h3,h4,a,b,c,rfl,h5.1,h5.2.1,h5.2.2⟩
  | [],h1,_=>simp at h1;omega
  | [_],h1,_=>simp at h1;omega
  | [_,_],h1,_=>simp at h1;omega
  | _::_::_::_::_,h1,_=>simp at h1;omega
 ·right;right;right;right
  have hc:gP op=if 0<(bt op).level then 2 else -1:=by unfold gP;rw[if_neg (by omega),if_neg o3,if_neg o4]
  have hlv:0<(bt op).level:=by
   by_cases h:0<(bt op).level
   ·exact h
   ·rw[if_neg h]at hc;omega
  rw[if_pos hlv]at hc
  have uL:bR op=(bt op).level:=by unfold bR;rw[if_neg o4,if_neg o3,if_neg (by omega)]
  have hf:(bt op).op=op∧bt op ∈ dL:=by
   unfold bt at hlv ⊢
   cases hq:dL.find? (fun b=>b.op==op)with
   | none=>rw[hq]at hlv;simp at hlv
   | some b =>
     have h1:=List.find?_some hq
     exact⟨by simpa using h1,List.mem_of_find?_eq_some hq⟩
  have hb:4≤op∧op≤15∧(bt op).level≤5:=by
   obtain⟨q1,q2⟩:=hf
   generalize bt op=b at q1 q2
   simp only[dL,List.mem_cons,List.not_mem_nil,or_false]at q2
   rcases q2 with rfl|rfl|rfl|rfl|rfl|rfl|rfl|rfl|rfl|rfl|rfl|rfl<;>(dsimp only at q1 ⊢;omega)
  match l,h1,h5 with
  | [a,b],_,h5=>simp only[pW,Bool.and_true,Bool.and_eq_true]at h5;exact⟨hb.1,hb.2.1,h3,h4,by omega,hb.2.2,uL,hf.1,hf.2,a,b,rfl,h5.1,h5.2⟩
  | [],h1,_=>simp at h1;omega
  | [_],h1,_=>simp at h1;omega
  | _::_::_::_,h1,_=>simp at h1;omega
theorem sC{x:Expr}(h:bC x=true): 0≤bR x.op:=by
 obtain⟨op,v,s,l⟩:=x
 rcases ju h with⟨rfl,_⟩|⟨rfl,_⟩|⟨rfl,_⟩|⟨rfl,_⟩|⟨_,_,_,_,h1,_,h2,_⟩
 ·show 0≤bR 1;decide
 ·show 0≤bR 2;decide
 ·show 0≤bR 3;decide
 ·show 0≤bR 16;decide
 ·show 0≤bR op;omega
theorem Et{x:Expr}{lv:Int}(h:¬ bR x.op<lv): dB x lv=bF x:=by unfold dB iM;exact if_neg h
theorem KA{x:Expr}{lv:Int}(h:bR x.op<lv): dB x lv=40::(bF x++[41]):=by unfold dB iM;exact if_pos h
theorem XS{s:aH}(h:eK s=true): s.length≤16:=by
 simp only[eK,Bool.and_eq_true,decide_eq_true_eq]at h;exact h.1.2
theorem yX(x:Expr): bC x=true→eH x→(bF x).length≤110*da x:=by
 induction x using Expr.ind with
 | h op v s l ih =>
   intro hr hx
   simp only[eH]at hx
   obtain⟨_,_,Om,L4,hl⟩:=hx
   have key:∀ y ∈ l,bC y=true→ ∀ lvl,(iM (bR y.op,bF y) lvl).length≤110*da y+2:=fun y hy Pe lvl=>by
    have:=ih y hy Pe (v8 hl hy)
    have:=Es (bR y.op,bF y) lvl
    dsimp only at this
    omega
   have JH:=Kz op
   rcases ju hr with⟨rfl,rfl,rfl,h1,_⟩|⟨rfl,rfl,rfl,h1⟩|⟨rfl,rfl,rfl,a,rfl,ha⟩|⟨rfl,rfl,rfl,a,b,c,rfl,ha,hb,hc⟩|⟨o1,o2,rfl,rfl,_,_,_,_,_,a,b,rfl,ha,hb⟩
   ·have:=XR v Om L4 h1
    simp only[bF,jt,if_true,da];omega
   ·have:=XS h1
    simp[bF,jt,da];omega
   ·have:=key a (by simp) ha 6
    simp[bF,me,jt,da,kW];omega
   ·have k1:=key a (by simp) ha 0
    have k2:=key b (by simp) hb 0
    have k3:=key c (by simp) hc 0
    simp[bF,me,jt,da,kW,oQ,kZ,qa];omega
   ·have k1:=key a (by simp) ha (if(bt op).level=3 then 4 else(bt op).level)
    have k2:=key b (by simp) hb ((bt op).level+1)
    have:bF (.mk op v0 [] [a,b])=iM (bR a.op,bF a) (if(bt op).level=3 then 4 else(bt op).level)++[32]++(bt op).sign++[32]++iM (bR b.op,bF b) ((bt op).level+1):=by
     simp only[bF,me,jt]
     rw[if_neg (by omega),if_neg (by omega),if_neg (by omega),if_neg (by omega)]
     rfl
    rw[this]
    simp only[List.length_append,List.length_cons,List.length_nil,da,kW]
    omega
theorem UO(x:Expr)(hr:bC x=true)(hx:eH x)(lvl:Int): (dB x lvl).length≤110*da x+2:=by
 have:=yX x hr hx
 have h2:=Es (bR x.op,bF x) lvl
 dsimp only at h2
 unfold dB;omega
set_option maxHeartbeats 2000000 in
theorem JI(x:Expr): bC x=true→eH x→da x≤2 ^ 30→ ∀ lvl:Int,aq Tryz.prog er [aJ x,I lvl] (.str (dB x lvl)):=by
 induction x using Expr.ind with
 | h op v s l ih =>
   intro hr hx hz
   have hx0:=hx
   have Sf:=sC hr
   have Wh:=yX _ hr hx
   simp only[eH]at hx
   obtain⟨hs,hvs,Om,L4,hl⟩:=hx
   simp only[da]at hz Wh
   have hL:=Ju op
   have zz:∀ y ∈ l,bC y=true→ ∀ lvl,aq Tryz.prog er [aJ y,I lvl] (.str (dB y lvl))∧(dB y lvl).length≤2 ^ 40:=fun y hy Pe lvl=>by
    have h1:=tg hy
    refine⟨ih y hy Pe (v8 hl hy) (by omega) lvl,?_⟩
    have:=UO y Pe (v8 hl hy) lvl
    omega
   have Eu:∀ lvl:Int,¬ bR op<lvl→aq Tryz.prog er [aJ (.mk op v s l),I lvl] (.str (bF (.mk op v s l))):=by
    intro lvl Sg
    rcases ju hr with⟨rfl,rfl,rfl,h1,_⟩|⟨rfl,rfl,rfl,h1⟩|⟨rfl,rfl,rfl,a,rfl,ha⟩|⟨rfl,rfl,rfl,a,b,c,rfl,ha,hb,hc⟩|⟨o1,o2,rfl,rfl,FJ,Sh,uL,_,_,a,b,rfl,ha,hb⟩
    ·have hvl : v.s.length ≤ 2 ^ 38 := by
      unfold bS at h1
      split at h1
      ·simp only[Bool.and_eq_true,decide_eq_true_eq]at h1;rw[h1.2];simp
      split at h1
      ·simp only[decide_eq_true_eq]at h1;rw[h1];simp
      split at h1
      ·simp only[ij,Bool.and_eq_true,decide_eq_true_eq]at h1;omega
      split at h1
      ·simp only[Bool.and_eq_true,decide_eq_true_eq]at h1;rw[h1.1];simp
      ·cases h1
     have ht:=Wg v Om L4 hvl
     rw[show bF (.mk 1 v [] [])=qM v from by simp[bF,jt]]
     generalize qM v=tv at *
     generalize bR 1=lv at *
     simp only[gO]at ht
     rw[aN]
     refine aq.of_nil (jg (by simp) ?_) (by simp)
     unfold iQ aM
     intro Q aC aD aE
     repeat' first|refine aB ?_|refine aF hL ?_|refine aF ht ?_|refine aA (fun hw=>?_) (fun hw=>?_)<;>try omega|fail
     all_goals first|exact aL rfl rfl|exact aZ
    ·rw[show bF (.mk 2 v0 s [])=s from by simp[bF,jt]]
     generalize bR 2=lv at *
     rw[aN]
     refine aq.of_nil (jg (by simp) ?_) (by simp)
     unfold iQ aM
     intro Q aC aD aE
     repeat' first|refine aB ?_|refine aF hL ?_|refine aA (fun hw=>?_) (fun hw=>?_)<;>try omega|fail
     all_goals first|exact aL rfl rfl|exact aZ
    ·obtain⟨i1,i2⟩:=zz a (by simp) ha 6
     rw[show bF (.mk 3 v0 [] [a])=45::dB a 6 from by simp[bF,me,jt,dB]]
     generalize dB a 6=t1 at *
     generalize bR 3=lv at *
     rw[aN]at i1
     rw[aN]
     refine aq.of_nil (jg (by simp) ?_) (by simp)
     unfold iQ aM
     intro Q aC aD aE
     repeat' first|refine aB ?_|refine aF hL ?_|refine aF i1 ?_|refine aA (fun hw=>?_) (fun hw=>?_)<;>try omega|fail
     all_goals first|exact aL rfl rfl|exact aZ
    ·obtain⟨i1,i2⟩:=zz a (by simp) ha 0
     obtain⟨j1,j2⟩:=zz b (by simp) hb 0
     obtain⟨k1,k2⟩:=zz c (by simp) hc 0
     rw[show bF (.mk 16 v0 [] [a,b,c])=oQ++dB a 0++kZ++dB b 0++qa++dB c 0 from by simp[bF,me,jt,dB]]
     generalize dB a 0=t1 at *
     generalize dB b 0=t2 at *
     generalize dB c 0=t3 at *
     generalize bR 16=lv at *
     rw[aN]at i1 j1 k1
     rw[aN]
     refine aq.of_nil (jg (by simp) ?_) (by simp)
     unfold iQ aM
     intro Q aC aD aE
     repeat' first|simp (disch:=omega) only[go_sem,aC,aD,aE,aj,au,ak,Nat.reduceAdd,Nat.reduceBEq,↓reduceIte,Int.toNat_one,show(2:Int).toNat=2 from rfl]|refine aB ?_|refine aF hL ?_|refine aF i1 ?_|refine aF j1 ?_|refine aF k1 ?_|refine aA (fun hw=>?_) (fun hw=>?_)<;>try omega|fail
     all_goals first|(refine aL ?_ rfl;simp[oQ,kZ,qa];done)|exact aZ
    ·obtain⟨i1,i2⟩:=zz a (by simp) ha (if(bt op).level=3 then 4 else(bt op).level)
     obtain⟨j1,j2⟩:=zz b (by simp) hb ((bt op).level+1)
     have JH:=Eb op
     have pC:=Kz op
     have hW:bF (.mk op v0 [] [a,b])=dB a (if(bt op).level=3 then 4 else(bt op).level)++[32]++(bt op).sign++[32]++dB b ((bt op).level+1):=by
      simp only[bF,me,jt]
      rw[if_neg (by omega),if_neg (by omega),if_neg (by omega),if_neg (by omega)]
      rfl
     rw[hW]
     rw[uL]at hL Sg
     clear hW uL Wh Sf
     generalize (bt op).sign=sg at *
     generalize (bt op).level=lv at *
     rw[aN]at i1 j1
     rw[aN]
     by_cases h3:lv=3
     ·subst h3
      simp only[if_true]at i1 i2 ⊢
      generalize dB a 4=t1 at *
      generalize dB b (3+1)=t2 at *
      simp only[Int.reduceAdd]at j1
      refine aq.of_nil (jg (by simp) ?_) (by simp)
      unfold iQ aM
      intro Q aC aD aE
      repeat' first|simp (disch:=omega) only[go_sem,aC,aD,aE,aj,au,ak,Nat.reduceAdd,Nat.reduceBEq,↓reduceIte,Int.toNat_one,Int.reduceAdd]|refine aB ?_|refine aF hL ?_|refine aF i1 ?_|refine aF j1 ?_|refine aF JH ?_|refine aA (fun hw=>?_) (fun hw=>?_)<;>try omega|fail
      all_goals first|(refine aL ?_ rfl;simp;done)|exact aZ
     ·simp only[if_neg h3]at i1 i2 ⊢
      generalize dB a lv=t1 at *
      generalize dB b (lv+1)=t2 at *
      refine aq.of_nil (jg (by simp) ?_) (by simp)
      unfold iQ aM
      intro Q aC aD aE
      repeat' first|simp (disch:=omega) only[go_sem,aC,aD,aE,aj,au,ak,Nat.reduceAdd,Nat.reduceBEq,↓reduceIte,Int.toNat_one]|refine aB ?_|refine aF hL ?_|refine aF i1 ?_|refine aF j1 ?_|refine aF JH ?_|refine aA (fun hw=>?_) (fun hw=>?_)<;>try omega|fail
      all_goals first|(refine aL ?_ rfl;simp;done)|exact aZ
   intro lvl
   by_cases Sg:bR op<lvl
   ·have h0:=Eu 0 (by show ¬ bR op<0;have:0≤bR op:=Sf;omega)
    have e:dB (.mk op v s l) lvl=40::(bF (.mk op v s l)++[41]):=KA (x:= .mk op v s l) Sg
    rw[e]
    have hlw:(bF (.mk op v s l)).length≤2 ^ 40:=by omega
    clear e Wh Eu
    generalize bF (.mk op v s l)=t at *
    generalize bR op=lv at *
    simp only[aJ]at h0 ⊢
    refine aq.of_nil (jg (by simp) ?_) (by simp)
    unfold iQ aM
    intro Q aC aD aE
    repeat' first|refine aB ?_|refine aF hL ?_|refine aF h0 ?_|refine aA (fun hw=>?_) (fun hw=>?_)<;>try omega|fail
    all_goals first|(refine aL ?_ rfl;simp;done)|exact aZ
   ·have e:dB (.mk op v s l) lvl=bF (.mk op v s l):=Et (x:= .mk op v s l) Sg
    rw[e]
    exact Eu lvl Sg
theorem FK(x:Expr)(hr:bC x=true)(hx:eH x)(hz:da x≤2 ^ 30)(lvl:Int): aq Tryz.prog oU [aJ x,I lvl] (.str (dB x lvl)):=by
 have h:=JI x hr hx hz lvl
 generalize dB x lvl=t at *
 rw[aN]at h ⊢
 refine aq.of_nil (Kh (by simp) ?_) (by simp)
 unfold Bt aM
 intro Q aC aD aE
 repeat' first|refine aB ?_|refine aF h ?_|refine aA (fun hw=>?_) (fun hw=>?_)<;>try omega|fail
 all_goals exact aL rfl rfl
def iS(x:Expr): Bool:=decide (200<(bF x).length)
def jQ(x:Expr): aH × Int:=if bC x=false then([],2)else if 12<fK x then([],12)else if iS x=true then([],5)else (bF x,0)
theorem Si{x:Expr}(hr:bC x=true): dB x 0=bF x:=by
 have:=sC hr
 exact Et (by omega)
theorem Ev(x:Expr)(hx:eH x)(hz:da x≤2 ^ 30): aq Tryz.prog mM [aJ x] (.bJ [.str (jQ x).1,I (jQ x).2]):=by
 have h1:=Ce x hx (by omega)
 have h2:=Ee x (by omega)
 have h3:=fun hr=>JI x hr hx hz 0
 have hT:jQ x=if bC x=false then([],2)else if 12<fK x then([],12)else if iS x=true then([],5)else (bF x,0):=rfl
 rw[hT]
 unfold iS
 cases hr:bC x with
 | false =>
   rw[if_pos rfl]
   rw[hr]at h1
   rw[aN]at h1 ⊢
   refine aq.of_nil (Fa (by simp) ?_) (by simp)
   unfold Ac aM
   intro Q aC aD aE
   repeat' first|refine aB ?_|refine aF h1 ?_|refine aA (fun hw=>?_) (fun hw=>?_)<;>try omega|fail
   all_goals exact aP rfl rfl
 | true =>
   have h3:=h3 hr
   rw[Si hr]at h3
   have hlen:=yX x hr hx
   rw[if_neg (by simp)]
   rw[hr]at h1
   generalize bF x=t at *
   generalize fK x=d at *
   rw[aN]at h1 h2 h3 ⊢
   refine aq.of_nil (Fa (by simp) ?_) (by simp)
   unfold Ac aM
   intro Q aC aD aE
   by_cases hd:12<d
   ·simp only[if_pos hd]at aC aD aE
    repeat' first|refine aB ?_|refine aF h1 ?_|refine aF h2 ?_|refine aA (fun hw=>?_) (fun hw=>?_)<;>try omega|fail
    all_goals first|exact aP rfl rfl|exact aZ
   ·simp only[if_neg hd,decide_eq_true_eq]at aC aD aE
    by_cases hb:200<t.length
    ·simp only[if_pos hb]at aC aD aE
     repeat' first|refine aB ?_|refine aF h1 ?_|refine aF h2 ?_|refine aF h3 ?_|refine aA (fun hw=>?_) (fun hw=>?_)<;>try omega|fail
     all_goals first|exact aP rfl rfl|exact aZ
    ·simp only[if_neg hb]at aC aD aE
     repeat' first|refine aB ?_|refine aF h1 ?_|refine aF h2 ?_|refine aF h3 ?_|refine aA (fun hw=>?_) (fun hw=>?_)<;>try omega|fail
     all_goals first|exact aP rfl rfl|exact aZ
abbrev TB: TypeId:=183
abbrev TU: TypeId:=5
def mY(T:TypeId)(σ : ai)(l:Nat)(s:aH): Prop:= ∃ p v,σ[l]? = some (.bj (some T) [p,v])∧(p = .fM∨p = .ref l 0) ∧
 ((s=[]∧v = .ae)∨(s≠[]∧ ∃ k,k≠l∧v = .own E1 k s.length 0 s.length∧σ[k]? = some (.bM (some TU) E1 (pU s))))
def f_(l:Nat)(σ σ':ai): Prop:=σ.length≤σ'.length∧ ∀ j o,σ[j]? = some o→j≠l→(∀ T xs,o≠ .bM (some T) E1 xs)→σ'[j]? = some o
theorem f_.refl(l:Nat)(σ : ai): f_ l σ σ:=⟨Nat.le_refl _,fun _ _ h _ _=>h⟩
theorem cA{σ : ai}{l:Nat}{o:aR}(h : σ[l]? = some o): l < σ.length:=(List.getElem?_eq_some_iff.1 h).1
theorem Zr : ∃ fn, Tryz.prog.funcs[226]? = some fn ∧ (fn.name == "runtime.NumGoroutine") = false ∧ fn.body.isNone = true ∧ Extern.findNext fn = none ∧ Extern.find fn = some Extern.AbiNoEscape.same :=
 ⟨_,Tryz.func226,by kernel_rfl,by kernel_rfl,by kernel_rfl,by kernel_rfl⟩
def HO(T:TypeId): Prop:=liesAt Tryz.prog Tryz.prog.depth T (2 / Tryz.prog.cellsOf T) 0 TB 1=true
theorem Dj: HO TB:=by unfold HO;kernel_rfl
theorem Builder_copyCheck{T:TypeId}(hT:HO T)(σ : ai)(l:Nat)(p v:AV)(h : σ[l]? = some (.bj (some T) [p,v]))(hp:p = .fM∨p = .ref l 0):
 ef Tryz.prog fm [.ref l 0] σ fun o σ'=>o = .ret (.bJ [])∧σ' = σ.set l (.bj (some T) [.ref l 0,v]):=by
 have sF : σ.set l (.bj (some T) [.ref l 0,v]) = σ∨p = .fM:=by
  rcases hp with rfl|rfl
  ·exact .inr rfl
  ·left
   apply List.ext_getElem?
   intro k
   by_cases e:k=l
   ·subst e;rw[List.getElem?_set_self (cA h)];exact h.symm
   ·rw[List.getElem?_set_ne (Ne.symm e)]
 refine vS (by simp) ?_
 unfold nn aM
 intro Q aC aD aE
 rcases hp with rfl|rfl
 ·repeat' first|simp (disch:=omega) only[go_sem,aC,aD,aE,aj,au,ak,Nat.reduceAdd,Nat.reduceBEq,↓reduceIte,h]|refine aB ?_|refine adZ h (by simp) ?_|refine aaO Zr ?_|refine ad0 h hT ?_|refine aA (fun hw=>?_) (fun hw=>?_)<;>try omega|fail
  exact⟨by trivial,by trivial⟩
 ·rcases sF with sF|sF
  ·repeat' first|simp (disch:=omega) only[go_sem,aC,aD,aE,aj,au,ak,Nat.reduceAdd,Nat.reduceBEq,↓reduceIte,h]|refine aB ?_|refine ad1 h ?_|refine aA (fun hw=>?_) (fun hw=>?_)<;>try omega|fail
   exact⟨rfl,sF.symm⟩
  ·cases sF
theorem Builder_Len{T:TypeId}(σ : ai)(l:Nat)(s:aH)(h:mY T σ l s): ef Tryz.prog mN [.ref l 0] σ fun o σ'=>o = .ret (I s.length)∧σ' = σ:=by
 obtain⟨p,v,h1,h2,h3⟩:=h
 refine B6 (by simp) ?_
 unfold s_ aM
 intro Q aC aD aE
 rcases h3 with⟨rfl,rfl⟩|⟨h3,k,h4,rfl,h5⟩
 ·repeat' first|simp (disch:=omega) only[go_sem,aC,aD,aE,aj,au,ak,Nat.reduceAdd,Nat.reduceBEq,↓reduceIte,h1]|refine aB ?_|refine aA (fun hw=>?_) (fun hw=>?_)<;>try omega|fail
  exact⟨rfl,trivial⟩
 ·repeat' first|simp (disch:=omega) only[go_sem,aC,aD,aE,aj,au,ak,Nat.reduceAdd,Nat.reduceBEq,↓reduceIte,h1]|refine aB ?_|refine aA (fun hw=>?_) (fun hw=>?_)<;>try omega|fail
  exact⟨rfl,trivial⟩
theorem Builder_WriteString{T:TypeId}(hT:HO T)(σ : ai)(l:Nat)(s t:aH)(h:mY T σ l s)(hlen:s.length+t.length≤2 ^ 38):
 ef Tryz.prog dN [.ref l 0,.str t] σ fun o σ'=>o = .ret (.bJ [I t.length,.lA])∧mY T σ' l (s++t)∧f_ l σ σ':=by
 obtain⟨p,v,h1,h2,h3⟩:=h
 have hl:=cA h1
 refine uu (by simp) ?_
 unfold mD aM
 intro Q aC aD aE
 have eG:=Builder_copyCheck hT σ l p v h1 h2
 have rU:(σ.set l (.bj (some T) [.ref l 0,v]))[l]? = some (.bj (some T) [.ref l 0,v]):=by simp[hl]
 have beside:∀ (o:aR),f_ l σ (σ.set l o):=fun o=>⟨by simp,fun j o' hj hne _=>by rw[List.getElem?_set_ne (Ne.symm hne)];exact hj⟩
 rcases h3 with⟨rfl,rfl⟩|⟨h3,k,h4,rfl,h5⟩
 ·cases t with
  | nil =>
    repeat' first|simp (disch:=omega) only[go_sem,aC,aD,aE,aj,au,ak,Nat.reduceAdd,Nat.reduceBEq,↓reduceIte,rU]|refine aB ?_|with_reducible refine bT eG ?_|refine aA (fun hw=>?_) (fun hw=>?_)<;>try omega|fail
    rintro o s ⟨rfl,rfl⟩
    repeat' first|simp (disch:=omega) only[go_sem,aC,aD,aE,aj,au,ak,Nat.reduceAdd,Nat.reduceBEq,↓reduceIte,rU,List.set_set]|refine aB ?_|refine aA (fun hw=>?_) (fun hw=>?_)<;>try omega|fail
    exact⟨rfl,⟨_,_,rU,.inr rfl,.inl ⟨rfl,rfl⟩⟩,beside _⟩
  | cons c t =>
    simp only[List.length_nil,List.length_cons]at hlen
    repeat' first|simp (disch:=omega) only[go_sem,aC,aD,aE,aj,au,ak,Nat.reduceAdd,Nat.reduceBEq,↓reduceIte,rU]|refine aB ?_|with_reducible refine bT eG ?_|refine aA (fun hw=>?_) (fun hw=>?_)<;>try omega|fail
    rintro o s ⟨rfl,rfl⟩
    have Ew:∀ o,((σ.set l (.bj (some T) [.ref l 0,.ae]))++[o])[l]? = some (.bj (some T) [.ref l 0,.ae]):=fun o=>by
     rw[List.getElem?_append_left (by simpa using hl)];exact rU
    repeat' first|simp (disch:=omega) only[go_sem,aC,aD,aE,aj,au,ak,Nat.reduceAdd,Nat.reduceBEq,↓reduceIte,rU,Ew,List.set_set]|refine aB ?_|refine aA (fun hw=>?_) (fun hw=>?_)<;>try omega|fail
    rw[List.set_append_left _ _ (by simpa using hl),List.set_set]
    refine⟨rfl,⟨.ref l 0,.own E1 σ.length (t.length+1) 0 (t.length+1),?_,.inr rfl,.inr ⟨by simp,σ.length,by omega,by simp,?_⟩⟩,by simp,fun j o' hj hne _=>?_⟩
    ·rw[List.getElem?_append_left (by simpa using hl)];simp[hl]
    ·rw[List.getElem?_append_right (by simp)];simp
    ·rw[List.getElem?_append_left (by simpa using cA hj),List.getElem?_set_ne (Ne.symm hne)];exact hj
 ·have hk:=cA h5
  have UP:∀ o,(σ.set l o)[k]? = some (.bM (some TU) E1 (pU s)):=fun o=>by rw[List.getElem?_set_ne (Ne.symm h4)];exact h5
  repeat' first|simp (disch:=omega) only[go_sem,aC,aD,aE,aj,au,ak,Nat.reduceAdd,Nat.reduceBEq,↓reduceIte,rU]|refine aB ?_|with_reducible refine bT eG ?_|refine aA (fun hw=>?_) (fun hw=>?_)<;>try omega|fail
  rintro o s' ⟨rfl,rfl⟩
  have Ew:∀ o,((σ.set l (.bj (some T) [.ref l 0,.own E1 k s.length 0 s.length])).set k o)[l]? = some (.bj (some T) [.ref l 0,.own E1 k s.length 0 s.length]):=fun o=>by
   rw[List.getElem?_set_ne h4];exact rU
  repeat' first|simp (disch:=omega) only[go_sem,aC,aD,aE,aj,au,ak,Nat.reduceAdd,Nat.reduceBEq,↓reduceIte,rU,Ew,UP,List.set_set]|refine aB ?_|refine aA (fun hw=>?_) (fun hw=>?_)<;>try omega|fail
  refine⟨rfl,⟨.ref l 0,.own E1 k (s.length+t.length) 0 (s.length+t.length),?_,.inr rfl,.inr ⟨by simp[h3],k,h4,by simp,?_⟩⟩,by simp,fun j o' hj hne AG=>?_⟩
  ·simp[hl]
  ·rw[List.getElem?_set_ne (Ne.symm h4)];simp[hk]
  ·have Cv:j≠k:=fun e=>by subst e;rw[h5]at hj;cases hj;exact AG _ _ rfl
   rw[List.getElem?_set_ne (Ne.symm hne),List.getElem?_set_ne (Ne.symm Cv),List.getElem?_set_ne (Ne.symm hne)];exact hj
theorem Builder_String{T:TypeId}(σ : ai)(l:Nat)(s:aH)(h:mY T σ l s)(hs:s.length≤2 ^ 62): ef Tryz.prog iG [.ref l 0] σ fun o σ'=>o = .ret (.str s)∧f_ l σ σ':=by
 obtain⟨p,v,h1,h2,h3⟩:=h
 refine yN (by simp) ?_
 unfold pO aM
 intro Q aC aD aE
 rcases h3 with⟨rfl,rfl⟩|⟨h3,k,h4,rfl,h5⟩
 ·repeat' first|simp (disch:=omega) only[go_sem,aC,aD,aE,aj,au,ak,Nat.reduceAdd,Nat.reduceBEq,↓reduceIte,h1]|refine aB ?_|refine aA (fun hw=>?_) (fun hw=>?_)<;>try omega|fail
  exact⟨rfl,.refl _ _⟩
 ·have h0:0<s.length:=List.length_pos_iff.2 h3
  repeat' first|simp (disch:=omega) only[go_sem,aC,aD,aE,aj,au,ak,Nat.reduceAdd,Nat.reduceBEq,↓reduceIte,h1]|refine aB ?_|refine ad2 h5 (by simp) h0 ?_|refine acj s h5 (by simp) rfl h3 hs rfl ?_|refine aA (fun hw=>?_) (fun hw=>?_)<;>try omega|fail
  refine⟨rfl,by simp,fun j o' hj hne AG=>?_⟩
  have Cv:j≠k:=fun e=>by subst e;rw[h5]at hj;cases hj;exact AG _ _ rfl
  rw[List.getElem?_set_ne (Ne.symm Cv)];exact hj
theorem mY.push{T:TypeId}{σ : ai}{l:Nat}{s:aH}(h:mY T σ l s)(ρ : ai): mY T (σ++ ρ) l s:=by
 obtain⟨p,v,h1,h2,h3⟩:=h
 refine⟨p,v,by rw[List.getElem?_append_left (cA h1)];exact h1,h2,?_⟩
 rcases h3 with h3|⟨h3,k,h4,h5,h6⟩
 ·exact .inl h3
 ·exact .inr ⟨h3,k,h4,h5,by rw[List.getElem?_append_left (cA h6)];exact h6⟩
theorem mY.lt{T:TypeId}{σ : ai}{l:Nat}{s:aH}(h:mY T σ l s): l < σ.length:=by
 obtain⟨p,v,h1,_⟩:=h;exact cA h1
theorem mY.Zs{T:TypeId}{σ : ai}{l q:Nat}{s u:aH}{i:Nat}(h:mY T σ l s)(hq : σ[q]? = some (.fV u i))(o:aR): mY T (σ.set q o) l s:=by
 obtain⟨p,v,h1,h2,h3⟩:=h
 have n1:q≠l:=fun e=>by subst e;rw[hq]at h1;cases h1
 refine⟨p,v,by rw[List.getElem?_set_ne n1];exact h1,h2,?_⟩
 rcases h3 with h3|⟨h3,k,h4,h5,h6⟩
 ·exact .inl h3
 ·have n2:q≠k:=fun e=>by subst e;rw[hq]at h6;cases h6
  exact .inr ⟨h3,k,h4,h5,by rw[List.getElem?_set_ne n2];exact h6⟩
theorem f_.trans{l:Nat}{σ1 σ2 σ3:ai}(h:f_ l σ1 σ2)(k:f_ l σ2 σ3): f_ l σ1 σ3 :=
 ⟨Nat.le_trans h.1 k.1,fun j o h1 h2 h3=>k.2 j o (h.2 j o h1 h2 h3) h2 h3⟩
theorem f_.qN{l:Nat}{σ ρ σ2:ai}(h:f_ l (σ++ ρ) σ2): f_ l σ σ2 :=
 ⟨Nat.le_trans (by simp) h.1,fun j o h1 h2 h3=>h.2 j o (by rw[List.getElem?_append_left (cA h1)];exact h1) h2 h3⟩
theorem XT{n:Int}(h:0≤n)(h':n≤4294967295): cg .u32 n=n:=by
 show IntKind.wrap .u32 n=n
 simp[IntKind.wrap,IntKind.bits,IntKind.signed];omega
theorem Builder_WriteByte{T:TypeId}(hT:HO T)(σ : ai)(l:Nat)(s:aH)(c:UInt8)(k:Int)(hk:k=c.toNat)(h:mY T σ l s)(hlen:s.length≤2 ^ 38):
 ef Tryz.prog cV [.ref l 0,.int .u8 k] σ fun o σ'=>o = .ret .lA∧mY T σ' l (s++[c])∧f_ l σ σ':=by
 subst hk
 obtain⟨p,v,h1,h2,h3⟩:=h
 have hl:=cA h1
 refine vP (by simp) ?_
 unfold nk aM
 intro Q aC aD aE
 have eG:=Builder_copyCheck hT σ l p v h1 h2
 have rU:(σ.set l (.bj (some T) [.ref l 0,v]))[l]? = some (.bj (some T) [.ref l 0,v]):=by simp[hl]
 rcases h3 with⟨rfl,rfl⟩|⟨h3,k,h4,rfl,h5⟩
 ·repeat' first|simp (disch:=omega) only[go_sem,aC,aD,aE,aj,au,ak,Nat.reduceAdd,Nat.reduceBEq,↓reduceIte,rU]|refine aB ?_|with_reducible refine bT eG ?_|refine aA (fun hw=>?_) (fun hw=>?_)<;>try omega|fail
  rintro o s' ⟨rfl,rfl⟩
  have Ew:∀ o,((σ.set l (.bj (some T) [.ref l 0,.ae]))++[o])[l]? = some (.bj (some T) [.ref l 0,.ae]):=fun o=>by
   rw[List.getElem?_append_left (by simpa using hl)];exact rU
  repeat' first|simp (disch:=omega) only[go_sem,aC,aD,aE,aj,au,ak,Nat.reduceAdd,Nat.reduceBEq,↓reduceIte,rU,Ew,List.set_set]|refine aB ?_|refine aA (fun hw=>?_) (fun hw=>?_)<;>try omega|fail
  rw[List.set_append_left _ _ (by simpa using hl),List.set_set]
  refine⟨rfl,⟨.ref l 0,.own E1 σ.length 1 0 1,?_,.inr rfl,.inr ⟨by simp,σ.length,by omega,by simp,?_⟩⟩,by simp,fun j o' hj hne _=>?_⟩
  ·rw[List.getElem?_append_left (by simpa using hl)];simp[hl]
  ·rw[List.getElem?_append_right (by simp)];simp
  ·rw[List.getElem?_append_left (by simpa using cA hj),List.getElem?_set_ne (Ne.symm hne)];exact hj
 ·have hk:=cA h5
  have UP:∀ o,(σ.set l o)[k]? = some (.bM (some TU) E1 (pU s)):=fun o=>by rw[List.getElem?_set_ne (Ne.symm h4)];exact h5
  repeat' first|simp (disch:=omega) only[go_sem,aC,aD,aE,aj,au,ak,Nat.reduceAdd,Nat.reduceBEq,↓reduceIte,rU]|refine aB ?_|with_reducible refine bT eG ?_|refine aA (fun hw=>?_) (fun hw=>?_)<;>try omega|fail
  rintro o s' ⟨rfl,rfl⟩
  have Ew:∀ o,((σ.set l (.bj (some T) [.ref l 0,.own E1 k s.length 0 s.length])).set k o)[l]? = some (.bj (some T) [.ref l 0,.own E1 k s.length 0 s.length]):=fun o=>by
   rw[List.getElem?_set_ne h4];exact rU
  repeat' first|simp (disch:=omega) only[go_sem,aC,aD,aE,aj,au,ak,Nat.reduceAdd,Nat.reduceBEq,↓reduceIte,rU,Ew,UP,List.set_set]|refine aB ?_|refine aA (fun hw=>?_) (fun hw=>?_)<;>try omega|fail
  refine⟨rfl,⟨.ref l 0,.own E1 k (s.length+1) 0 (s.length+1),?_,.inr rfl,.inr ⟨by simp,k,h4,by simp,?_⟩⟩,by simp,fun j o' hj hne AG=>?_⟩
  ·simp[hl]
  ·rw[List.getElem?_set_ne (Ne.symm h4)];simp[hk]
  ·have Cv:j≠k:=fun e=>by subst e;rw[h5]at hj;cases hj;exact AG _ _ rfl
   rw[List.getElem?_set_ne (Ne.symm hne),List.getElem?_set_ne (Ne.symm Cv),List.getElem?_set_ne (Ne.symm hne)];exact hj
theorem N9(σ : ai)(k:Nat)(s:aH)(c:UInt8)(hc:c.toNat<128)(h : σ[k]? = some (.bM (some TU) E1 (pU s)))(hlen:s.length≤2 ^ 38):
 ef Tryz.prog ko [.own E1 k s.length 0 s.length,.int .i32 c.toNat] σ fun o σ'=>o = .ret (.own E1 k (s.length+1) 0 (s.length+1))∧σ' = σ.set k (.bM (some TU) E1 (pU (s++[c]))):=by
 refine yd (by simp) ?_
 unfold oX aM
 intro Q aC aD aE
 repeat' first|simp (disch:=omega) only[go_sem,aC,aD,aE,aj,au,ak,Nat.reduceAdd,Nat.reduceBEq,↓reduceIte,h,XT]|refine aB ?_|refine aA (fun hw=>?_) (fun hw=>?_)<;>try omega|fail
 all_goals first|(refine⟨rfl,?_⟩;simp;done)|exact aZ
theorem yx{T:TypeId}(hT:HO T)(σ : ai)(l:Nat)(s:aH)(c:UInt8)(hc:c.toNat<128)(h:mY T σ l s)(hs:s≠[])(hlen:s.length≤2 ^ 38):
 ef Tryz.prog jC [.ref l 0,.int .i32 c.toNat] σ fun o σ'=>(∃ r,o = .ret r)∧mY T σ' l (s++[c])∧f_ l σ σ':=by
 obtain⟨p,v,h1,h2,h3⟩:=h
 have hl:=cA h1
 refine vU (by simp) ?_
 unfold nq aM
 intro Q aC aD aE
 have eG:=Builder_copyCheck hT σ l p v h1 h2
 have rU:(σ.set l (.bj (some T) [.ref l 0,v]))[l]? = some (.bj (some T) [.ref l 0,v]):=by simp[hl]
 rcases h3 with⟨rfl,rfl⟩|⟨h3,k,h4,rfl,h5⟩
 ·exact absurd rfl hs
 ·have hk:=cA h5
  have UP:∀ o,(σ.set l o)[k]? = some (.bM (some TU) E1 (pU s)):=fun o=>by rw[List.getElem?_set_ne (Ne.symm h4)];exact h5
  repeat' first|simp (disch:=omega) only[go_sem,aC,aD,aE,aj,au,ak,Nat.reduceAdd,Nat.reduceBEq,↓reduceIte,rU]|refine aB ?_|with_reducible refine bT eG ?_|refine aA (fun hw=>?_) (fun hw=>?_)<;>try omega|fail
  rintro o s' ⟨rfl,rfl⟩
  repeat' first|simp (disch:=omega) only[go_sem,aC,aD,aE,aj,au,ak,Nat.reduceAdd,Nat.reduceBEq,↓reduceIte,rU]|refine aB ?_|with_reducible refine bT (N9 _ k s c hc (UP _) hlen) ?_|refine aA (fun hw=>?_) (fun hw=>?_)<;>try omega|fail
  rintro o s' ⟨rfl,rfl⟩
  have Ew:∀ o,((σ.set l (.bj (some T) [.ref l 0,.own E1 k s.length 0 s.length])).set k o)[l]? = some (.bj (some T) [.ref l 0,.own E1 k s.length 0 s.length]):=fun o=>by
   rw[List.getElem?_set_ne h4];exact rU
  have h1a:∀ o o',(((σ.set l (.bj (some T) [.ref l 0,.own E1 k s.length 0 s.length])).set k o).set l o')[l]? = some o':=fun o o'=>by
   rw[List.getElem?_set_self (by simpa using hl)]
  repeat' first|simp (disch:=omega) only[go_sem,aC,aD,aE,aj,au,ak,Nat.reduceAdd,Nat.reduceBEq,↓reduceIte,rU,Ew,h1a,UP,List.set_set]|refine aB ?_|refine aA (fun hw=>?_) (fun hw=>?_)<;>try omega|fail
  refine⟨⟨_,rfl⟩,⟨.ref l 0,.own E1 k (s.length+1) 0 (s.length+1),?_,.inr rfl,.inr ⟨by simp,k,h4,by simp,?_⟩⟩,by simp,fun j o' hj hne AG=>?_⟩
  ·simp[hl]
  ·rw[List.getElem?_set_ne (Ne.symm h4)];simp[hk]
  ·have Cv:j≠k:=fun e=>by subst e;rw[h5]at hj;cases hj;exact AG _ _ rfl
   rw[List.getElem?_set_ne (Ne.symm hne),List.getElem?_set_ne (Ne.symm Cv),List.getElem?_set_ne (Ne.symm hne)];exact hj
set_option maxHeartbeats 1000000 in
theorem TQ(s:aH)(ha:∀ i,i<s.length→(s.getD i 0).toNat<128)(hs:s.length≤2 ^ 36): aq Tryz.prog sq [.str s] (.str (kY s)):=by
 refine aq.of_nil (NR (by simp) ?_) rfl
 unfold Fv aM
 intro Q aC aD aE
 have hb0:mY TB [.bj (some TB) [.fM,.ae]] 0 []:=⟨_,_,rfl,.inl rfl,.inl ⟨rfl,rfl⟩⟩
 repeat' first|refine aB ?_|with_reducible refine bT (Builder_WriteByte Dj _ 0 _ 34 34 rfl hb0 (by simp)) ?_|refine aA (fun hw=>?_) (fun hw=>?_)<;>try omega|fail
 rintro o σ ⟨rfl,hb1,_⟩
 repeat' first|refine aB ?_|refine aA (fun hw=>?_) (fun hw=>?_)<;>try omega|fail
 generalize hq : σ.length=q at *
 with_reducible refine a_ [5,9,10,11,12,13,14,15,16,17,18,19] (fun x:Nat × ai=>[]) (fun x=>x.2) (fun x=>x.1≤s.length∧mY TB x.2 0 (34::(s.take x.1).flatMap fP)∧x.2[q]? = some (.fV s x.1)) (fun x=>s.length-x.1) (0,σ++[.fV s 0]) ?_ ?_ ?_ ?_
 ·exact⟨Nat.zero_le _,by simpa using hb1.push _,by rw[← hq];simp⟩
 ·rfl
 ·exact at_
 clear hb1 hb0 hq
 rintro⟨i,σ⟩ r ⟨h1,h2,h3⟩
 dsimp only at h1 h2 h3
 have hql:=HM (s.take i)
 rw[List.length_take]at hql
 have yh:(34::(s.take i).flatMap fP).length≤2 ^ 37+1:=by rw[List.length_cons];omega
 by_cases hi:i<s.length
 ·have hai:=ha i hi
  have ht:=Mu hi
  have hb:=h2.Zs h3 (.fV s (i+1))
  have hne:(34::(s.take i).flatMap fP:aH)≠[]:=by simp
  have h3':(σ.set q (.fV s (i+1)))[q]? = some (.fV s (i+1)):=by rw[List.getElem?_set_self (cA h3)]
  have hq0:q≠0:=fun e=>by
   obtain⟨p,v,k1,_⟩:=h2
   rw[e,k1]at h3;cases h3
  generalize (s.take i).flatMap fP=acc at *
  by_cases hc:(s.getD i 0).toNat=34∨(s.getD i 0).toNat=92
  ·rw[fP,if_pos hc]at ht
   repeat' first|simp (disch:=omega) only[go_sem,aC,aD,aE,aj,au,ak,Nat.reduceAdd,Nat.reduceBEq,↓reduceIte,h3]|refine aB ?_|with_reducible refine bT (Builder_WriteByte Dj _ 0 _ 92 92 rfl hb (by omega)) ?_|refine aA (fun hw=>?_) (fun hw=>?_)<;>try omega|fail
   all_goals first
    | (rintro o σ1 ⟨rfl, hb1, cu⟩
       have h3a:=cu.2 q _ h3' hq0 (fun _ _=>by simp)
       repeat' first|refine aB ?_|with_reducible refine bT (yx Dj _ 0 _ (s.getD i 0) hai hb1 (by simp) (by simp only[List.length_append,List.length_cons,List.length_nil];omega)) ?_|refine aA (fun hw=>?_) (fun hw=>?_)<;>try omega|fail
       rintro o σ2 ⟨⟨rr,rfl⟩,hb2,iA⟩
       repeat' first|refine aB ?_|refine aA (fun hw=>?_) (fun hw=>?_)<;>try omega|fail
       refine⟨(i+1,σ2),⟨?_,?_,?_⟩,?_,rfl,bG,at_⟩
       ·dsimp only;omega
       ·dsimp only;rw[ht];simpa using hb2
       ·exact iA.2 q _ h3a hq0 (fun _ _=>by simp)
       ·dsimp only;omega)
    | exact aZ
  ·rw[fP,if_neg hc]at ht
   repeat' first|simp (disch:=omega) only[go_sem,aC,aD,aE,aj,au,ak,Nat.reduceAdd,Nat.reduceBEq,↓reduceIte,h3]|refine aB ?_|with_reducible refine bT (yx Dj _ 0 _ (s.getD i 0) hai hb hne (by omega)) ?_|refine aA (fun hw=>?_) (fun hw=>?_)<;>try omega|fail
   all_goals first
    | (rintro o σ2 ⟨⟨rr, rfl⟩, hb2, iA⟩
       repeat' first|refine aB ?_|refine aA (fun hw=>?_) (fun hw=>?_)<;>try omega|fail
       refine⟨(i+1,σ2),⟨?_,?_,?_⟩,?_,rfl,bG,at_⟩
       ·dsimp only;omega
       ·dsimp only;rw[ht];simpa using hb2
       ·exact iA.2 q _ h3' hq0 (fun _ _=>by simp)
       ·dsimp only;omega)
    | exact aZ
 ·have Us:i=s.length:=by omega
  have qU:s.take i=s:=List.take_of_length_le (by omega)
  rw[qU]at h2 yh
  simp only[List.length_cons]at yh
  repeat' first|simp (disch:=omega) only[go_sem,aC,aD,aE,aj,au,ak,Nat.reduceAdd,Nat.reduceBEq,↓reduceIte,h3]|refine aB ?_|with_reducible refine bT (Builder_WriteByte Dj _ 0 _ 34 34 rfl h2 (by simp only[List.length_cons];omega)) ?_|refine aA (fun hw=>?_) (fun hw=>?_)<;>try omega|fail
  rintro o σ1 ⟨rfl,hb1,_⟩
  repeat' first|refine aB ?_|with_reducible refine bT (Builder_String _ 0 _ hb1 (by simp only[List.length_append,List.length_cons,List.length_nil];omega)) ?_|refine aA (fun hw=>?_) (fun hw=>?_)<;>try omega|fail
  rintro o σ2 ⟨rfl,_⟩
  repeat' first|refine aB ?_|refine aA (fun hw=>?_) (fun hw=>?_)<;>try omega|fail
  refine aL ?_ rfl
  simp[kY]
theorem Sj{s:aH}(h:ij s=true): ∀ i,i<s.length→(s.getD i 0).toNat<128:=by
 intro i hi
 simp only[ij,Bool.and_eq_true,List.all_eq_true]at h
 have:=h.2 (s.getD i 0) (by rw[List.getD_eq_getElem?_getD,List.getElem?_eq_getElem hi];exact List.getElem_mem hi)
 rw[yT]at this
 omega
theorem Wi(v:dy)(h0 : -9223372036854775808≤v.n)(h1:v.n≤9223372036854775807)(hr:bS v=true): aq Tryz.prog zN [gO v] (.bJ [.str (qM v),I 0]):=by
 obtain⟨k,n,s⟩:=v
 dsimp only at h0 h1
 have c1:=mA k n s h0 h1
 rw[hr]at c1
 simp only[kV,if_true]at c1
 have c2:=strconv_Itoa n h0 h1
 have c3:k=2→aq Tryz.prog sq [.str s] (.str (kY s)):=fun hk=>by
  unfold bS at hr
  dsimp only at hr
  rw[if_neg (by omega),if_neg (by omega),if_pos hk]at hr
  simp only[Bool.and_eq_true]at hr
  have hp:=hr.2
  refine TQ s (Sj hp) ?_
  simp only[ij,Bool.and_eq_true,decide_eq_true_eq]at hp
  omega
 have c4:=fun b=>strconv_FormatBool b
 clear hr
 have hS:qM ⟨k,n,s⟩=if k=1 then Lib.itoa n else if k=2 then kY s else if k=3 then(if n=1 then jO else iL)else lq:=rfl
 rw[hS]
 clear hS
 generalize Lib.itoa n=t1 at *
 generalize kY s=t2 at *
 simp only[gO]
 by_cases k2:k=2
 ·have c5:=c3 k2
  clear c3
  subst k2
  refine aq.of_nil (Fi (by simp) ?_) rfl
  unfold Ah aM
  intro Q aC aD aE
  repeat' first|refine aB ?_|refine aF c1 ?_|refine aF c5 ?_|refine aA (fun hw=>?_) (fun hw=>?_)<;>try omega|fail
  all_goals (refine aP ?_ rfl;simp)
 ·clear c3
  refine aq.of_nil (Fi (by simp) ?_) rfl
  unfold Ah aM
  intro Q aC aD aE
  repeat' first|refine aB ?_|refine aF c1 ?_|refine aF c2 ?_|refine aF (c4 _) ?_|refine aA (fun hw=>?_) (fun hw=>?_)<;>try omega|fail
  all_goals (refine aP ?_ rfl;simp_all[jO,iL,lq])
end Go.Proofs.YtmbgnaoilncbnaaGreatDoor
