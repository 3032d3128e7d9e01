/- Part. -/
import Derived.Test.YtmbgnaoilncbnaaGreatDoorX23
import Derived.Shelf.Strings.OnBuilder
import Derived.Shelf.Small.Wraps
import Derived.Shelf.LaysM
import Derived.Shelf.Strconv.Itoa3
import Derived.Test.YtmbgnaoilncbnaaGreatDoorProg
set_option linter.all false
namespace Go.Proofs.YtmbgnaoilncbnaaGreatDoor
open Go.AM
set_option maxRecDepth 4000
def yc(t:Test)(a b:Int): Bool:=jc a b && (decide (t.kind=1) ||(decide (a≠3) && decide (b≠3)))
def Tt(t:Test)(a b:Int): ai Tryz.prog Fl [bO t,I a,I b] (.bool (yc t a b)):=by
 have hf:=rO a b;have hS:yc t a b=(jc a b && (decide (t.kind=1) ||(decide (a≠3) && decide (b≠3)))):=rfl;rw[hS];generalize jc a b=f at *;simp only[bO,cw];refine ai.aG (VP (by simp) ?_) (by simp);unfold Nf aP;intro Q au aA aB;repeat' first|refine aq ?_|refine aC hf ?_|refine ak ?_ ?_<;>intro hw<;>try omega|fail
 all_goals (refine aM ?_ rfl;refine congrArg AV.bool ?_;rw[aV];simp_all)
def QJ(t:Test)(a b:Int): ai Tryz.prog xB [bO t,I a,I b] (.bool (yc t a b)):=by
 have hf:=um a b;have hS:yc t a b=(jc a b && (decide (t.kind=1) ||(decide (a≠3) && decide (b≠3)))):=rfl;rw[hS];generalize jc a b=f at *;simp only[bO,cw];refine ai.aG (Ux (by simp) ?_) (by simp);unfold KY aP;intro Q au aA aB;repeat' first|refine aq ?_|refine aC hf ?_|refine ak ?_ ?_<;>intro hw<;>try omega|fail
 all_goals (refine aM ?_ rfl;refine congrArg AV.bool ?_;rw[aV];simp_all)
def QK(t:Test): List Expr:=if t.kind=6 then [t.a,t.b]else [t.a]
def aay(t:Test): ai Tryz.prog C7 [bO t] (cw (QK t)):=by
 have h1:∀ σ : aj,View σ (.aK true EX [.agg [I t.a.op,I t.a.v.kind,I t.a.v.n,.str t.a.v.s,.str t.a.s,.aK false EX (t.a.l.map aL)]]) (cw [t.a]):=fun σ=>by
  rw[cw,bu,bt,aR];exact View.weak _ _ _ (by simp)
 have h2:∀ σ : aj,View σ (.aK true EX [.agg [I t.a.op,I t.a.v.kind,I t.a.v.n,.str t.a.v.s,.str t.a.s,.aK false EX (t.a.l.map aL)],.agg [I t.b.op,I t.b.v.kind,I t.b.v.n,.str t.b.v.s,.str t.b.s,.aK false EX (t.b.l.map aL)]]) (cw [t.a,t.b]):=fun σ=>by
  rw[cw,bu,bu,bt,aR,aR];exact View.weak _ _ _ (by simp)
 unfold QK;by_cases h6:t.kind=6
 ·rw[if_pos h6];generalize cw [t.a,t.b]=E at *;simp only[bO,cw];refine ai.aG (Jn (by simp) ?_) (by simp);unfold Dz aP;intro Q au aA aB;repeat' first|simp (disch:=omega) only[go_sem,au,aA,aB,h6]|refine aq ?_|refine ak ?_ ?_<;>intro hw<;>try omega|fail
  all_goals exact PN (h2 _)
 ·rw[if_neg h6];generalize cw [t.a]=E at *;simp only[bO,cw];refine ai.aG (Jn (by simp) ?_) (by simp);unfold Dz aP;intro Q au aA aB;repeat' first|refine aq ?_|refine ak ?_ ?_<;>intro hw<;>try omega|fail
  all_goals exact PN (h1 _)
def eD(cs:List cI)(x:Expr): Int × Int:=if cA x then gT cs x else(0,2)
def DP(cs:List cI)(hcs:cs.length<=2 ^ 60)(x:Expr)(hx:ic x)(hz:eK x<=2 ^ 60): ai Tryz.prog qY [aL x,bB cs] (.bX [I (eD cs x).1,I (eD cs x).2]):=by
 have:=XY cs hcs x hx hz;unfold eD;cases hr:cA x<;>simpa[hr]using this
def zF(cs:List cI)(hcs:cs.length<=2 ^ 60)(x:Expr)(hx:ic x)(hz:eK x<=2 ^ 60): ai Tryz.prog pL [aL x,bB cs] (.bX [I (eD cs x).1,I (eD cs x).2]):=by
 have:=aap cs hcs x hx hz;unfold eD;cases hr:cA x<;>simpa[hr]using this
def DQ(cs:List cI)(kind:Int)(t:Test): Int :=
 if(eD cs t.a).2≠0 then(eD cs t.a).2
 else if t.kind=6 then(if(eD cs t.b).2≠0 then(eD cs t.b).2 else if yc t kind (eD cs t.a).1 && yc t kind (eD cs t.b).1 then 0 else 14)
 else if yc t kind (eD cs t.a).1 then 0 else 14
def tD(cs:List cI)(kind:Int)(c:Cell): Int:=if jf c then(match c.tests.find? (fun t=>DQ cs kind t != 0)with
 | some t=>DQ cs kind t
 | none=>0)else 2
def Y1{cs:List cI}{kind:Int}{c:Cell}{i:Nat}{e:Int}(hr:jf c=true)(hi:i<c.tests.length)(h:∀ k,k<i->(DQ cs kind (c.tests.getD k default) != 0)=false)(he:DQ cs kind (c.tests.getD i default)=e)(hne:e≠0): tD cs kind c=e:=by
 unfold tD;rw[if_pos hr,wN (p:=fun t=>DQ cs kind t != 0) hi h (by rw[he];simpa using hne)];exact he
def Wr{cs:List cI}{kind:Int}{c:Cell}(hr:jf c=true)(h:∀ k,k<c.tests.length->(DQ cs kind (c.tests.getD k default) != 0)=false): tD cs kind c=0:=by
 unfold tD;rw[if_pos hr,wk (p:=fun t=>DQ cs kind t != 0) h]
set_option maxHeartbeats 2000000 in
def NB(cs:List cI)(hcs:cs.length<=2 ^ 60)(kind:Int)(c:Cell)(h:Nu c): ai Tryz.prog AU [bH c,I kind,bB cs] (I (tD cs kind c)):=by
 have hR:=FB c h;obtain⟨hl,ht⟩:=h;cases hr:jf c with
 | false =>
   rw[show tD cs kind c=2 from by unfold tD;rw[if_neg (by simp[hr])]];rw[hr]at hR;simp only[bH,fo,bB]at hR ⊢;refine ai.aG (Gx (by simp) ?_) (by simp);unfold Bf aP;intro Q au aA aB;repeat' first|refine aq ?_|refine aC hR ?_|refine ak ?_ ?_<;>intro hw<;>try omega|fail
   exact aM rfl rfl
 | true =>
   rw[hr]at hR;simp only[bH,fo,bB]at hR ⊢;refine ai.aG (Gx (by simp) ?_) (by simp);unfold Bf aP;intro Q au aA aB;repeat' first|refine aq ?_|refine aC hR ?_|refine ak ?_ ?_<;>intro hw<;>try omega|fail
   with_reducible refine bn [6,7,8,9,10,11,15,16,17,18,19,20,21,22,23,24,25,26,27,28,29,30,31,32,33,34,35,36,37,38,39,40,41,42,43,44,45,46,47,48,49,50,51,52,53,54,55,56,57,58,59,60,61,62,63] (fun q:Nat × List aX=>[(7,I q.1)]) (fun q=> .cells [.bool c.any,.bool c.neg,.aK false ES (c.tests.map bO)]::q.2) (fun q=>q.1<=c.tests.length/\ ∀ k,k<q.1->(DQ cs kind (c.tests.getD k default) != 0)=false) (fun q=>c.tests.length-q.1) (0,[]) ?_ ?_ ?_ ?_
   ·simp
   ·rfl
   ·exact at_
   rintro⟨i,τ⟩ r ⟨h1,h2⟩;dsimp only at h1 h2;by_cases hi:i<c.tests.length
   ·have uz:=ht _ (a_ hi);have o_:=fun e he hne=>Y1 (cs:=cs) (kind:=kind) (e:=e) hr hi h2 he hne;have bY:=fun he=>bf h2 (i:=i) he;obtain⟨t,tE⟩:∃ t,c.tests.getD i default=t:=⟨_,rfl⟩;rw[tE]at uz o_ bY;have ka:=zF cs hcs t.a uz.1.1 uz.1.2;have kb:=zF cs hcs t.b uz.2.1 uz.2.2;have fa:=QJ t kind (eD cs t.a).1;have fb:=QJ t kind (eD cs t.b).1;simp only[DQ]at o_ bY;generalize yc t kind (eD cs t.a).1=va at *;generalize yc t kind (eD cs t.b).1=vb at *;generalize eD cs t.a=ra at *;generalize eD cs t.b=rb at *;rw[aR]at ka kb;simp only[bO,cw,bB]at ka kb fa fb;repeat' first|simp (disch:=omega) only[go_sem,au,aA,aB,tE]|refine aq ?_|refine aC ka ?_|refine aC kb ?_|refine aC fa ?_|refine aC fb ?_|refine ak ?_ ?_<;>intro hw<;>try omega|fail
    all_goals first
     |(refine aM ?_ rfl;refine congrArg I ?_;symm;refine o_ _ ?_ ?_<;>(clear o_ bY;simp_all;done))
     | (refine ⟨(i + 1, τ ++ [.cells [I t.kind, I t.a.op, I t.a.v.kind, I t.a.v.n, .str t.a.v.s, .str t.a.s, .aK false EX (t.a.l.map aL), I t.b.op, I t.b.v.kind, I t.b.v.n, .str t.b.v.s, .str t.b.s, .aK false EX (t.b.l.map aL), .bool t.lo, .bool t.hi]]), ?_, ?_, ?_, bJ, at_⟩ <;> (try dsimp only)
        ·exact⟨by omega,bY (by clear o_ bY;simp_all)⟩
        ·omega
        all_goals (first|rfl|(simp[go_sem];done)))
     | exact aY
   ·repeat' first|refine aq ?_|refine ak ?_ ?_<;>intro hw<;>try omega|fail
    refine aM ?_ rfl;rw[Wr hr (fun k hk=>h2 k (by omega))]
@[go_sem] def alo {α : Type} (τ : List α) (d : α):(τ++[d])[τ.length]? = some d:=by simp
@[go_sem] def alA {α : Type} (τ : List α) (d e : α):(τ++[d]).set τ.length e = τ++[e]:=by simp
@[go_sem] def alp {α : Type} (τ : List α) (c d e : α):(τ++[c]++[d]).set τ.length e = τ++[e]++[d]:=by simp
set_option maxHeartbeats 4000000 in
def aaz(cs:List cI)(hcs:cs.length<=2 ^ 60)(kind:Int)(c:Cell)(h:Nu c): ai Tryz.prog C6 [bH c,I kind,bB cs] (I (tD cs kind c)):=by
 have hR:=H8 c h;obtain⟨hl,ht⟩:=h;cases hr:jf c with
 | false =>
   rw[show tD cs kind c=2 from by unfold tD;rw[if_neg (by simp[hr])]];rw[hr]at hR;simp only[mX,Bool.false_eq_true,if_false]at hR;simp only[bH,fo,bB]at hR ⊢;refine ai.aG (Jg (by simp) ?_) (by simp);unfold Dv aP;intro Q au aA aB;repeat' first|refine aq ?_|refine aC hR ?_|refine ak ?_ ?_<;>intro hw<;>try omega|fail
   exact aM rfl rfl
 | true =>
   rw[hr]at hR;simp only[mX,if_true]at hR;simp only[bH,fo,bB]at hR ⊢;refine ai.aG (Jg (by simp) ?_) (by simp);unfold Dv aP;intro Q au aA aB;repeat' first|refine aq ?_|refine aC hR ?_|refine ak ?_ ?_<;>intro hw<;>try omega|fail
   with_reducible refine bn [6,9,10,12,13,14,23,24,25,26,27,28,29,30,31,32,33,34,35,36,37,38,39,40,41,42,43,44,45,46,47,48,49,50,51,52,53] (fun q:Nat × List aX=>[(23,I q.1)]) (fun q=> .cells [.bool c.any,.bool c.neg,.aK false ES (c.tests.map bO)]::q.2) (fun q=>q.1<=c.tests.length/\ ∀ k,k<q.1->(DQ cs kind (c.tests.getD k default) != 0)=false) (fun q=>c.tests.length-q.1) (0,[]) ?_ ?_ ?_ ?_
   ·simp
   ·rfl
   ·exact at_
   rintro⟨i,τ⟩ r ⟨h1,h2⟩;dsimp only at h1 h2;by_cases hi:i<c.tests.length
   ·have uz:=ht _ (a_ hi);have o_:=fun e he hne=>Y1 (cs:=cs) (kind:=kind) (e:=e) hr hi h2 he hne;have bY:=fun he=>bf h2 (i:=i) he;obtain⟨t,tE⟩:∃ t,c.tests.getD i default=t:=⟨_,rfl⟩;rw[tE]at uz o_ bY;have ka:=DP cs hcs t.a uz.1.1 uz.1.2;have kb:=DP cs hcs t.b uz.2.1 uz.2.2;have fa:=Tt t kind (eD cs t.a).1;have fb:=Tt t kind (eD cs t.b).1;have hp:=aay t;simp only[DQ]at o_ bY;generalize yc t kind (eD cs t.a).1=va at *;generalize yc t kind (eD cs t.b).1=vb at *;generalize eD cs t.a=ra at *;generalize eD cs t.b=rb at *;rw[aR]at ka kb;simp only[bO,cw,bB]at ka kb fa fb;by_cases h6:t.kind=6
    ·rw[QK,if_pos h6,cw,bu,bu,bt,aR,aR]at hp;simp only[bO,cw]at hp;simp only[if_pos h6]at o_ bY;repeat' first|simp (disch:=omega) only[go_sem,au,aA,aB,tE]|refine aq ?_|refine aC hp ?_|refine ak ?_ ?_<;>intro hw<;>try omega|fail
     with_reducible refine bn [6,10,12,13,14,30,31,32,33,34,35,36,37,38,39,40,41,42,43,44,45,46,47,48,49,50] (fun q:Int × Bool × List aX=>[(30,I q.1),(10,.bool q.2.1)]) (fun q=> .cells [.bool c.any,.bool c.neg,.aK false ES (c.tests.map bO)]::q.2.2) (fun q=>((q.1=0/\q.2.1=true)\/(q.1=1/\ra.2=0/\q.2.1=va)\/(q.1=2/\ra.2=0/\rb.2=0/\q.2.1=(va && vb)))/\q.2.2[τ.length]? = some (.cells [I t.kind,I t.a.op,I t.a.v.kind,I t.a.v.n,.str t.a.v.s,.str t.a.s,.aK false EX (t.a.l.map aL),I t.b.op,I t.b.v.kind,I t.b.v.n,.str t.b.v.s,.str t.b.s,.aK false EX (t.b.l.map aL),.bool t.lo,.bool t.hi])) (fun q=>(2-q.1).toNat) (0,true,τ++[.cells [I t.kind,I t.a.op,I t.a.v.kind,I t.a.v.n,.str t.a.v.s,.str t.a.s,.aK false EX (t.a.l.map aL),I t.b.op,I t.b.v.kind,I t.b.v.n,.str t.b.v.s,.str t.b.s,.aK false EX (t.b.l.map aL),.bool t.lo,.bool t.hi]]) ?_ ?_ ?_ ?_
     ·exact⟨.inl ⟨rfl,rfl⟩,by simp⟩
     ·rfl
     ·exact at_
     clear hp;rintro⟨j,ok,QL⟩ r2 ⟨hj,hk⟩;dsimp only at hj hk;have hk2:=fun d:aX=>(List.getElem?_append_left (l₁:=QL) (l₂:=[d]) (aN.1 hk).1).trans hk;rcases hj with⟨rfl,rfl⟩|⟨rfl,Y2,rfl⟩|⟨rfl,Y2,hrb,rfl⟩
     ·repeat' first|simp (disch:=omega) only[go_sem,au,aA,aB,hk,hk2,fP]|refine aq ?_|refine aC ka ?_|refine aC fa ?_|refine ak ?_ ?_<;>intro hw<;>try omega|fail
      all_goals first
       |(refine aM ?_ rfl;refine congrArg I ?_;symm;refine o_ _ ?_ ?_<;>(clear o_ bY;simp_all;done))
       | (refine ⟨(1, va, QL ++ [.cells [I t.a.op, I t.a.v.kind, I t.a.v.n, .str t.a.v.s, .str t.a.s, .aK false EX (t.a.l.map aL)]]), ?_, ?_, ?_, bJ, at_⟩ <;> (try dsimp only)
          ·exact⟨.inr (.inl ⟨rfl,by assumption,rfl⟩),hk2 _⟩
          ·omega
          all_goals (first|rfl|(simp[go_sem];done)))
       | exact aY
     ·cases ok
      ·repeat' first|simp (disch:=omega) only[go_sem,au,aA,aB,hk,hk2,fP]|refine aq ?_|refine aC kb ?_|refine aC fb ?_|refine ak ?_ ?_<;>intro hw<;>try omega|fail
       all_goals first
        |(refine aM ?_ rfl;refine congrArg I ?_;symm;refine o_ _ ?_ ?_<;>(clear o_ bY;simp_all;done))
        | (refine ⟨(2, false, QL ++ [.cells [I t.b.op, I t.b.v.kind, I t.b.v.n, .str t.b.v.s, .str t.b.s, .aK false EX (t.b.l.map aL)]]), ?_, ?_, ?_, bJ, at_⟩ <;> (try dsimp only)
           ·exact⟨.inr (.inr ⟨rfl,by assumption,by assumption,rfl⟩),hk2 _⟩
           ·omega
           all_goals (first|rfl|(simp[go_sem];done)))
        | exact aY
      ·repeat' first|simp (disch:=omega) only[go_sem,au,aA,aB,hk,hk2,fP]|refine aq ?_|refine aC kb ?_|refine aC fb ?_|refine ak ?_ ?_<;>intro hw<;>try omega|fail
       all_goals first
        |(refine aM ?_ rfl;refine congrArg I ?_;symm;refine o_ _ ?_ ?_<;>(clear o_ bY;simp_all;done))
        | (refine ⟨(2, vb, QL ++ [.cells [I t.b.op, I t.b.v.kind, I t.b.v.n, .str t.b.v.s, .str t.b.s, .aK false EX (t.b.l.map aL)]]), ?_, ?_, ?_, bJ, at_⟩ <;> (try dsimp only)
           ·exact⟨.inr (.inr ⟨rfl,by assumption,by assumption,rfl⟩),hk2 _⟩
           ·omega
           all_goals (first|rfl|(simp[go_sem];done)))
        | exact aY
     ·repeat' first|simp (disch:=omega) only[go_sem,au,aA,aB,hk,hk2]|refine aq ?_|refine ak ?_ ?_<;>intro hw<;>try omega|fail
      all_goals first
       |(refine aM ?_ rfl;refine congrArg I ?_;symm;refine o_ _ ?_ ?_<;>(clear o_ bY;simp_all;done))
       | (refine ⟨(i + 1, QL), ?_, ?_, ?_, bJ, at_⟩ <;> (try dsimp only)
          ·exact⟨by omega,bY (by clear o_ bY;simp_all)⟩
          ·omega
          all_goals (first|rfl|(simp[go_sem];done)))
       | exact aY
    ·rw[QK,if_neg h6,cw,bu,bt,aR]at hp;simp only[bO,cw]at hp;simp only[if_neg h6]at o_ bY;repeat' first|simp (disch:=omega) only[go_sem,au,aA,aB,tE]|refine aq ?_|refine aC hp ?_|refine ak ?_ ?_<;>intro hw<;>try omega|fail
     with_reducible refine bn [6,10,12,13,14,30,31,32,33,34,35,36,37,38,39,40,41,42,43,44,45,46,47,48,49,50] (fun q:Int × Bool × List aX=>[(30,I q.1),(10,.bool q.2.1)]) (fun q=> .cells [.bool c.any,.bool c.neg,.aK false ES (c.tests.map bO)]::q.2.2) (fun q=>((q.1=0/\q.2.1=true)\/(q.1=1/\ra.2=0/\q.2.1=va))/\q.2.2[τ.length]? = some (.cells [I t.kind,I t.a.op,I t.a.v.kind,I t.a.v.n,.str t.a.v.s,.str t.a.s,.aK false EX (t.a.l.map aL),I t.b.op,I t.b.v.kind,I t.b.v.n,.str t.b.v.s,.str t.b.s,.aK false EX (t.b.l.map aL),.bool t.lo,.bool t.hi])) (fun q=>(2-q.1).toNat) (0,true,τ++[.cells [I t.kind,I t.a.op,I t.a.v.kind,I t.a.v.n,.str t.a.v.s,.str t.a.s,.aK false EX (t.a.l.map aL),I t.b.op,I t.b.v.kind,I t.b.v.n,.str t.b.v.s,.str t.b.s,.aK false EX (t.b.l.map aL),.bool t.lo,.bool t.hi]]) ?_ ?_ ?_ ?_
     ·exact⟨.inl ⟨rfl,rfl⟩,by simp⟩
     ·rfl
     ·exact at_
     clear hp;rintro⟨j,ok,QL⟩ r2 ⟨hj,hk⟩;dsimp only at hj hk;have hk2:=fun d:aX=>(List.getElem?_append_left (l₁:=QL) (l₂:=[d]) (aN.1 hk).1).trans hk;rcases hj with⟨rfl,rfl⟩|⟨rfl,Y2,rfl⟩
     ·repeat' first|simp (disch:=omega) only[go_sem,au,aA,aB,hk,hk2,fP]|refine aq ?_|refine aC ka ?_|refine aC fa ?_|refine ak ?_ ?_<;>intro hw<;>try omega|fail
      all_goals first
       |(refine aM ?_ rfl;refine congrArg I ?_;symm;refine o_ _ ?_ ?_<;>(clear o_ bY;simp_all;done))
       | (refine ⟨(1, va, QL ++ [.cells [I t.a.op, I t.a.v.kind, I t.a.v.n, .str t.a.v.s, .str t.a.s, .aK false EX (t.a.l.map aL)]]), ?_, ?_, ?_, bJ, at_⟩ <;> (try dsimp only)
          ·exact⟨.inr ⟨rfl,by assumption,rfl⟩,hk2 _⟩
          ·omega
          all_goals (first|rfl|(simp[go_sem];done)))
       | exact aY
     ·repeat' first|simp (disch:=omega) only[go_sem,au,aA,aB,hk,hk2]|refine aq ?_|refine ak ?_ ?_<;>intro hw<;>try omega|fail
      all_goals first
       |(refine aM ?_ rfl;refine congrArg I ?_;symm;refine o_ _ ?_ ?_<;>(clear o_ bY;simp_all;done))
       | (refine ⟨(i + 1, QL), ?_, ?_, ?_, bJ, at_⟩ <;> (try dsimp only)
          ·exact⟨by omega,bY (by clear o_ bY;simp_all)⟩
          ·omega
          all_goals (first|rfl|(simp[go_sem];done)))
       | exact aY
   ·repeat' first|refine aq ?_|refine ak ?_ ?_<;>intro hw<;>try omega|fail
    refine aM ?_ rfl;rw[Wr hr (fun k hk=>h2 k (by omega))]
end Go.Proofs.YtmbgnaoilncbnaaGreatDoor
namespace Go.Proofs
open Go.Shelf
def Tryz.NC: Go.Shelf.Ren:=⟨fun|156=>104|165=>145|166=>146|169=>109|240=>191|241=>192|276=>226|277=>227|n=>n,fun|31=>70|9=>9|3=>3|4=>4|0=>0|20=>20|72=>183|76=>219|70=>181|37=>155|75=>218|127=>228|164=>292|5=>5|80=>87|n=>n,fun|n=>n⟩
def Tryz.Y3: Go.Proofs.Lays.n156 Tryz.prog Tryz.NC:= {
 mixed:=by kernel_rfl
 f156:=Tryz.func104.trans (congrArg some (by kernel_rfl))
 f165:=Tryz.func145.trans (congrArg some (by kernel_rfl))
 f166:=Tryz.func146.trans (congrArg some (by kernel_rfl))
 f169:=Tryz.func109.trans (congrArg some (by kernel_rfl))
 f240:=Tryz.func191.trans (congrArg some (by kernel_rfl))
 f241:=Tryz.func192.trans (congrArg some (by kernel_rfl))
 f276:=Tryz.func226.trans (congrArg some (by kernel_rfl))
 f277:=Tryz.func227.trans (congrArg some (by kernel_rfl))
 t0:=Tryz.underlying0
 a0:=Tryz.isAgg0
 z0:=Tryz.sizeOf0
 v0:=Tryz.zeroValue0
 t3:=Tryz.underlying3
 a3:=Tryz.isAgg3
 z3:=Tryz.sizeOf3
 v3:=Tryz.zeroValue3
 t4:=Tryz.underlying4
 a4:=Tryz.isAgg4
 z4:=Tryz.sizeOf4
 v4:=Tryz.zeroValue4
 t9:=Tryz.underlying9
 a9:=Tryz.isAgg9
 z9:=Tryz.sizeOf9
 v9:=Tryz.zeroValue9
 t20:=Tryz.underlying20
 a20:=Tryz.isAgg20
 z20:=Tryz.sizeOf20
 v20:=Tryz.zeroValue20
 t31:=Tryz.underlying70
 a31:=Tryz.isAgg70
 z31:=Tryz.sizeOf70
 v31:=Tryz.zeroValue70
 t37:=Tryz.underlying155
 a37:=Tryz.isAgg155
 z37:=Tryz.sizeOf155
 v37:=Tryz.zeroValue155
 t70:=Tryz.underlying181
 a70:=Tryz.isAgg181
 z70:=Tryz.sizeOf181
 v70:=Tryz.zeroValue181
 t72:=Tryz.underlying183
 a72:=Tryz.isAgg183
 z72:=Tryz.sizeOf183
 v72:=Tryz.zeroValue183
 t75:=Tryz.underlying218
 a75:=Tryz.isAgg218
 z75:=Tryz.sizeOf218
 v75:=Tryz.zeroValue218
 t76:=Tryz.underlying219
 a76:=Tryz.isAgg219
 z76:=Tryz.sizeOf219
 v76:=Tryz.zeroValue219
 t127:=Tryz.underlying228
 a127:=Tryz.isAgg228
 z127:=Tryz.sizeOf228
 v127:=Tryz.zeroValue228
 t164:=Tryz.underlying292
 a164:=Tryz.isAgg292
 z164:=Tryz.sizeOf292
 v164:=Tryz.zeroValue292 }
def Tryz.BD: Builder.Extra Tryz.prog Tryz.NC:= {
 sizeBuilder:=by kernel_rfl
 liesBuilder:=by kernel_rfl
 t5:=Tryz.underlying5
 a5:=Tryz.isAgg5
 z5:=Tryz.sizeOf5
 v5:=Tryz.zeroValue5
 infoByte:=by kernel_rfl
 cellsByte:=by kernel_rfl
 sizeByte:=by kernel_rfl
 neB5:=by decide }
open Go.RowKit in
def Tryz.strings_Join_none (a : Option Addr) (c : Nat) (sep : ByteArray) (w : World) :
    Calls Tryz.prog 104 #[.slice a 0 c,.string sep] w fun e w'=>e = .returned (.string ⟨#[]⟩)/\w'=w:=Any.strings_Join_none Tryz.Y3 Tryz.BD a c sep w
open Go.RowKit in
def Tryz.strings_Join (bk o c : Nat) (xs : List ByteArray) (sep : ByteArray) (w : World) (hcells : ∀ (j : Nat) x, xs[j]? = some x -> w.cell? ⟨bk, o + j, none⟩ = some (.string x)) (hbk : bk < w.heap.size) (hN : xs.length <= 140737488355328) (hcap : xs.length <= c) (hlen : (Lib.join (xs.map (·.data.toList)) sep.data.toList).length <= 140737488355328) :
    Calls Tryz.prog 104 #[.slice (some ⟨bk,o,none⟩) xs.length c,.string sep] w fun e w'=>e = .returned (.string ⟨(Lib.join (xs.map (·.data.toList)) sep.data.toList).toArray⟩)/\Below w.heap.size w w':=Any.strings_Join Tryz.Y3 Tryz.BD bk o c xs sep w hcells hbk hN hcap hlen
def Tryz.XZ: Go.Shelf.Ren:=⟨fun|121=>196|214=>230|n=>n,fun|4=>4|9=>9|n=>n,fun|n=>n⟩
def Tryz.aeL: Go.Proofs.Lays.n121 Tryz.prog Tryz.XZ:= {
 mixed:=by kernel_rfl
 f121:=Tryz.func196.trans (congrArg some (by kernel_rfl))
 f214:=Tryz.func230.trans (congrArg some (by kernel_rfl))
 t4:=Tryz.underlying4
 a4:=Tryz.isAgg4
 z4:=Tryz.sizeOf4
 v4:=Tryz.zeroValue4
 t9:=Tryz.underlying9
 a9:=Tryz.isAgg9
 z9:=Tryz.sizeOf9
 v9:=Tryz.zeroValue9 }
open Go.RowKit in
def Tryz.strconv_FormatBool (b : Bool) (w : World) :
    Calls Tryz.prog 196 #[.bool b] w fun e w'=>e = .returned (.string ⟨(Lib.formatBool b).toArray⟩)/\w'=w:=Any.strconv_FormatBool Tryz.aeL b w
def Tryz.Ws: Go.Shelf.Ren:=⟨fun|171=>194|243=>228|246=>244|283=>267|284=>268|285=>269|286=>270|129=>281|317=>280|318=>282|319=>283|320=>284|337=>286|338=>287|n=>n,fun|3=>3|9=>9|2=>2|4=>4|171=>325|0=>0|53=>153|37=>155|5=>5|173=>327|212=>338|51=>329|20=>20|213=>339|46=>157|232=>342|233=>343|n=>n,fun|17=>1|18=>2|19=>3|n=>n⟩
def Tryz.adt: Go.Proofs.LaysM.n171 Tryz.prog Tryz.Ws:= {
 mixed:=by kernel_rfl
 f129:=Tryz.func281.trans (congrArg some (by kernel_rfl))
 f171:=Tryz.func194.trans (congrArg some (by kernel_rfl))
 f243:=Tryz.func228.trans (congrArg some (by kernel_rfl))
 f246:=Tryz.func244.trans (congrArg some (by kernel_rfl))
 f283:=Tryz.func267.trans (congrArg some (by kernel_rfl))
 f284:=Tryz.func268.trans (congrArg some (by kernel_rfl))
 f285:=Tryz.func269.trans (congrArg some (by kernel_rfl))
 f286:=Tryz.func270.trans (congrArg some (by kernel_rfl))
 f317:=Tryz.func280.trans (congrArg some (by kernel_rfl))
 f318:=Tryz.func282.trans (congrArg some (by kernel_rfl))
 f319:=Tryz.func283.trans (congrArg some (by kernel_rfl))
 f320:=Tryz.func284.trans (congrArg some (by kernel_rfl))
 f337:=Tryz.func286.trans (congrArg some (by kernel_rfl))
 f338:=Tryz.func287.trans (congrArg some (by kernel_rfl))
 t0:=Tryz.underlying0
 a0:=Tryz.isAgg0
 z0:=Tryz.sizeOf0
 v0:=Tryz.zeroValue0
 t2:=Tryz.underlying2
 a2:=Tryz.isAgg2
 z2:=Tryz.sizeOf2
 v2:=Tryz.zeroValue2
 t3:=Tryz.underlying3
 a3:=Tryz.isAgg3
 z3:=Tryz.sizeOf3
 v3:=Tryz.zeroValue3
 t4:=Tryz.underlying4
 a4:=Tryz.isAgg4
 z4:=Tryz.sizeOf4
 v4:=Tryz.zeroValue4
 t5:=Tryz.underlying5
 a5:=Tryz.isAgg5
 z5:=Tryz.sizeOf5
 v5:=Tryz.zeroValue5
 t9:=Tryz.underlying9
 a9:=Tryz.isAgg9
 z9:=Tryz.sizeOf9
 v9:=Tryz.zeroValue9
 t20:=Tryz.underlying20
 a20:=Tryz.isAgg20
 z20:=Tryz.sizeOf20
 v20:=Tryz.zeroValue20
 t37:=Tryz.underlying155
 a37:=Tryz.isAgg155
 z37:=Tryz.sizeOf155
 v37:=Tryz.zeroValue155
 t46:=Tryz.underlying157
 a46:=Tryz.isAgg157
 z46:=Tryz.sizeOf157
 v46:=Tryz.zeroValue157
 t51:=Tryz.underlying329
 a51:=Tryz.isAgg329
 z51:=Tryz.sizeOf329
 v51:=Tryz.zeroValue329
 t53:=Tryz.underlying153
 a53:=Tryz.isAgg153
 z53:=Tryz.sizeOf153
 v53:=Tryz.zeroValue153
 t171:=Tryz.underlying325
 a171:=Tryz.isAgg325
 z171:=Tryz.sizeOf325
 v171:=Tryz.zeroValue325
 t173:=Tryz.underlying327
 a173:=Tryz.isAgg327
 z173:=Tryz.sizeOf327
 v173:=Tryz.zeroValue327
 t212:=Tryz.underlying338
 a212:=Tryz.isAgg338
 z212:=Tryz.sizeOf338
 v212:=Tryz.zeroValue338
 t213:=Tryz.underlying339
 a213:=Tryz.isAgg339
 z213:=Tryz.sizeOf339
 t232:=Tryz.underlying342
 a232:=Tryz.isAgg342
 z232:=Tryz.sizeOf342
 v232:=Tryz.zeroValue342
 t233:=Tryz.underlying343
 a233:=Tryz.isAgg343
 z233:=Tryz.sizeOf343
 v233:=Tryz.zeroValue343
 g17:=by kernel_rfl
 g18:=by kernel_rfl
 g19:=by kernel_rfl
 i0:=by kernel_rfl
 i2:=by kernel_rfl
 i3:=by kernel_rfl
 i4:=by kernel_rfl
 i5:=by kernel_rfl
 i9:=by kernel_rfl
 i20:=by kernel_rfl
 i37:=by kernel_rfl
 i46:=by kernel_rfl
 i51:=by kernel_rfl
 i53:=by kernel_rfl
 i171:=by kernel_rfl
 i173:=by kernel_rfl
 i212:=by kernel_rfl
 i232:=by kernel_rfl
 i233:=by kernel_rfl
 m17:=by kernel_rfl
 m18:=by kernel_rfl
 m19:=by kernel_rfl }
open Go.RowKit Go.Sort Go.Lib in
def Tryz.strconv_Itoa (n : Int) (h0 : -9223372036854775808 ≤ n) (h1 : n ≤ 9223372036854775807) (w : World) (htab : Lib.TabIs Tryz.prog w "internal/strconv.uint64pow10" .u64 Lib.pow10Tab) :
    Calls Tryz.prog 194 #[.int .i64 n] w fun e w'=>e = .returned (.string ⟨(Lib.itoa n).toArray⟩)/\ ∃ k os,w'=grow (w.drewN k) os:=Any.strconv_Itoa Tryz.adt n h0 h1 w htab
end Go.Proofs
namespace Go.Proofs.YtmbgnaoilncbnaaGreatDoor
open Go.AM
set_option maxRecDepth 4000
def zp {P : Program} {f : FuncId} {args : List AV} {r : AV} (hf : Has P f)
    (h : ∀ (g : aO) (w : World) (σ : aj) (vs : Array Value), Rel g w σ -> args.length = vs.size -> (∀ i, i < args.length -> VR g w (args.getD i .undef) (vs.getD i Go.undef)) ->
      ∃ v,(∀ g' w',VR g' w' r v)/\Calls P f vs w fun e w'=>e = .returned v/\w'.os=w.os/\w'.tape=w.tape/\w'.output=w.output/\w.heap.size<=w'.heap.size/\ ∀ b,b<w.heap.size->w'.heap[b]? = w.heap[b]?):ai P f args r:=by
 intro σ;refine⟨hf,fun g w vs hR hl hv=>?_⟩;obtain⟨v,h1,h2⟩:=h g w σ vs hR hl hv;refine h2.mono ?_;rintro e w' ⟨rfl,k1,k2,k3,k4,k5⟩;obtain⟨r1,r2⟩:=hR.CN k4 k1 k2 k3 k5;exact⟨.ret r,_,σ,r1,r2,h1 _ _,rfl,rfl⟩
def VR.UZ{g:aO}{w:World}(s:aJ): VR g w (.str s) (.string ⟨s.toArray⟩):=VR.str s
def abQ{vs:Array Value}(h:1=vs.size): vs = #[vs.getD 0 Go.undef]:=by
 apply Array.ext
 ·simp[<-h]
 ·intro i h1 h2;simp at h2;subst h2;simp[<-h]
def agl{vs:Array Value}(h:2=vs.size): vs = #[vs.getD 0 Go.undef,vs.getD 1 Go.undef]:=by
 apply Array.ext
 ·simp[<-h]
 ·intro i h1 h2;simp at h2;obtain rfl|rfl:i=0\/i=1:=by omega
  ·simp[<-h]
  ·simp[<-h]
def strconv_Itoa(n:Int)(h0 : -9223372036854775808<=n)(h1:n<=9223372036854775807): ai Tryz.prog F5 [I n] (.str (Lib.itoa n)):=by
 refine zp ⟨_,Tryz.func194,by kernel_rfl,by kernel_rfl⟩ fun g w σ vs hR hl hv=>?_;have h2:=hv 0 (by simp);rw[abQ hl];generalize vs.getD 0 Go.undef=v at h2;simp only[cQ]at h2;cases h2;refine⟨_,fun g' w'=>VR.UZ (Lib.itoa n),(Tryz.strconv_Itoa n h0 h1 w hR.mu.2).mono ?_⟩;rintro e w' ⟨rfl,k,os,rfl⟩;refine⟨rfl,rfl,rfl,rfl,by simp[Sort.grow,World.drewN],fun b hb=>?_⟩;simp only[Sort.grow,World.drewN];rw[eJ (by simpa using hb)]
def strconv_FormatBool(b:Bool): ai Tryz.prog xy [.bool b] (.str (if b then mc else kE)):=by
 refine zp ⟨_,Tryz.func196,by kernel_rfl,by kernel_rfl⟩ fun g w σ vs hR hl hv=>?_;have h2:=hv 0 (by simp);rw[abQ hl];generalize vs.getD 0 Go.undef=v at h2;simp only[cQ]at h2;cases h2;have e:Lib.formatBool b=if b then mc else kE:=by cases b<;>decide
 refine⟨_,fun g' w'=>VR.UZ (if b then mc else kE),(Tryz.strconv_FormatBool b w).mono ?_⟩;rintro e w' ⟨rfl,rfl⟩;refine⟨by rw[e],rfl,rfl,rfl,Nat.le_refl _,fun _ _=>rfl⟩
def strings_Join(l:List aJ)(sep:aJ)(hl:l.length<=2 ^ 40)(hj:(Lib.join l sep).length<=2 ^ 40): ai Tryz.prog F4 [eR l,.str sep] (.str (Lib.join l sep)):=by
 refine zp ⟨_,Tryz.func104,by kernel_rfl,by kernel_rfl⟩ fun g w σ vs hR hlen hv=>?_;have h2:=hv 0 (by simp);have h3:=hv 1 (by simp);rw[agl hlen];generalize vs.getD 0 Go.undef=v at h2;generalize vs.getD 1 Go.undef=u at h3;simp only[cQ,List.getD_cons_succ]at h2 h3;cases h3;simp only[eR]at h2;generalize hxs:l.map cS=xs at h2;have below:∀ w':World,RowKit.Below w.heap.size w w'->w'.os=w.os/\w'.tape=w.tape/\w'.output=w.output/\w.heap.size<=w'.heap.size/\ ∀ b,b<w.heap.size->w'.heap[b]? = w.heap[b]?:=fun w' h=>⟨h.os,h.tape,h.output,h.size,h.block⟩;cases h2 with
 | mq f el b cap hf =>
   obtain rfl:l=[]:=by cases l<;>simp at hxs;rfl
   refine⟨_,fun g' w'=>VR.UZ (Lib.join [] sep),(Tryz.strings_Join_none b cap ⟨sep.toArray⟩ w).mono ?_⟩;rintro e w' ⟨rfl,rfl⟩;refine⟨rfl,rfl,rfl,rfl,Nat.le_refl _,fun _ _=>rfl⟩
 | aK f el xs b off cap hi hf hx ft hc h =>
   subst hxs;have BC:=hR.lt b hi
   have hm:(l.map fun s=>(⟨s.toArray⟩:ByteArray)).map (·.data.toList)=l:=by
    rw[List.map_map];conv=>rhs;rw[<-List.map_id l]
    rfl
   have hcells:∀ (j:Nat) x,(l.map fun s=>(⟨s.toArray⟩:ByteArray))[j]? = some x->w.cell? ⟨b,off+j,none⟩=some (.string x):=fun j x hx'=>by
    obtain⟨hj',rfl⟩:=aN.1 hx';have hjl:j<l.length:=by simpa using hj'
    have c1:=hc j 0 (by simpa using hjl) (by decide);have c2:=h j 0 (by simpa using hjl) (by decide);have e1:off+(j*(⟨false,1⟩:El).sz+0)=off+j:=by show off+(j*1+0)=off+j;omega
    rw[e1]at c1 c2;obtain⟨v,hv⟩:=eZ.1 c1;have e2:((l.map cS).getD j .undef).cell 0 = .str (l[j]):=by simp[hjl,cS,AV.cell]
    rw[e2]at c2;simp only[gR,hv,bT]at c2;cases c2;rw[hv];simp
   have:=Tryz.strings_Join b off cap (l.map fun s=>(⟨s.toArray⟩:ByteArray)) ⟨sep.toArray⟩ w hcells BC (by simp;omega) (by simpa using hx) (by rw[hm];show(Lib.join l sep).length<=_;omega);rw[hm]at this;simp only[cE]at this ⊢;refine⟨_,fun g' w'=>VR.UZ (Lib.join l sep),this.mono ?_⟩;rintro e w' ⟨rfl,hb⟩;exact⟨rfl,below w' hb⟩
def OO{m:Nat}(h:10<=m): Lib.decDigits m=Lib.decDigits (m / 10)++[UInt8.ofNat (48+m % 10)]:=by
 conv=>lhs;rw[Lib.decDigits]
 rw[dif_neg (by omega)]
def yd{m:Nat}(h:m<10): Lib.decDigits m=[UInt8.ofNat (48+m)]:=by rw[Lib.decDigits,dif_pos h]
def Ib(k:Nat): ∀ u:Nat,u<10 ^ (k+1)->(Lib.decDigits u).length<=k+1:=by
 induction k with
 | zero=>intro u h;rw[yd (by omega)];simp
 | succ k ih =>
   intro u h;by_cases h9:u<10
   ·rw[yd h9];simp
   ·rw[OO (by omega),List.length_append];have:=ih (u / 10) (by rw[fL]at h;omega);simp only[List.length_cons,List.length_nil];omega
def OP(m:Nat): Lib.itoa (m:Int)=Lib.decDigits m:=by unfold Lib.itoa;rw[if_neg (by omega)];rfl
def itoa_neg{m:Nat}(h:0<m): Lib.itoa (-(m:Int))=45::Lib.decDigits m:=by unfold Lib.itoa;rw[if_pos (by omega)];simp
@[go_sem] def ahN {P : Program} {f : Bool} {σ : aj} {K Kp : AV -> aj -> Prop} (k : Int) (h : 0 <= k) (h' : k <= 255) : cP P (.wX (.c (.aK f ⟨false, 1⟩ [.int .u8 k]))) σ (.mk : Tg (K, Kp)) = K (.str [UInt8.ofNat k.toNat]) σ := by
  have:(UInt8.ofNat k.toNat).toNat=k.toNat:=by rw[UInt8.toNat_ofNat'];omega
  have e:AV.int .u8 k=AV.int .u8 (UInt8.ofNat k.toNat).toNat:=by rw[this];congr 1;omega
  rw[e];exact Z3 _
def Lz(m:Nat): (m<=9223372036854775807->ai Tryz.prog ni [I m] (.str (Lib.itoa m)))/\(m<=9223372036854775808->ai Tryz.prog ni [I (-(m:Int))] (.str (Lib.itoa (-(m:Int))))):=by
 induction m using Nat.strongRecOn with
 | _ m ih =>
   by_cases h9:m<=9
   ·constructor
    ·intro _;rw[OP,yd (by omega)];refine ai.aG (oL (by simp) ?_) rfl;unfold nn aP;intro Q au aA aB;repeat' first|refine aq ?_|refine ak ?_ ?_<;>intro hw<;>try omega|fail
     all_goals first|(exfalso;omega)|(refine aM ?_ rfl;refine congrArg (fun n:Nat=>AV.str [UInt8.ofNat n]) ?_;omega)
    ·intro _;rcases Nat.eq_zero_or_pos m with rfl|hm
     ·have e:Lib.itoa (-((0:Nat):Int))=[48]:=by rw[show (-((0:Nat):Int))=((0:Nat):Int) from rfl,OP,yd (by omega)];rfl
      rw[e];refine ai.aG (oL (by simp) ?_) rfl;unfold nn aP;intro Q au aA aB;repeat' first|refine aq ?_|refine ak ?_ ?_<;>intro hw<;>try omega|fail
      all_goals first|(exfalso;omega)|exact aM rfl rfl
     ·rw[itoa_neg hm,yd (by omega)];refine ai.aG (oL (by simp) ?_) rfl;unfold nn aP;intro Q au aA aB;repeat' first|refine aq ?_|refine ak ?_ ?_<;>intro hw<;>try omega|fail
      all_goals first|(exfalso;omega)|(refine aM ?_ rfl;refine congrArg (fun n:Nat=>AV.str (45::[UInt8.ofNat n])) ?_;omega)
   ·obtain⟨i1,i2⟩:=ih (m / 10) (by omega);constructor
    ·intro hm;have i1:=i1 (by omega);rw[OP]at i1 ⊢;rw[OO (by omega)];have e1:(m:Int) / 10=((m / 10:Nat):Int):=by omega
     have hl:=Ib 19 (m / 10) (by omega);generalize Lib.decDigits (m / 10)=D at *;refine ai.aG (oL (by simp) ?_) rfl;unfold nn aP;intro Q au aA aB;repeat' first|simp (disch:=omega) only[go_sem,au,aA,aB,e1]|refine aq ?_|refine aC i1 ?_|refine ak ?_ ?_<;>intro hw<;>try omega|fail
     all_goals first|(exfalso;omega)|(refine aM ?_ rfl;refine congrArg (fun n:Nat=>AV.str (D++[UInt8.ofNat n])) ?_;omega)
    ·intro hm;have i2:=i2 (by omega);rw[itoa_neg (by omega)]at i2 ⊢;rw[OO (by omega)];have e1:(-(m:Int)).tdiv 10 = -((m / 10:Nat):Int):=by rw[Int.neg_tdiv,Int.tdiv_eq_ediv_of_nonneg (by omega)];omega
     have hl:=Ib 19 (m / 10) (by omega);generalize Lib.decDigits (m / 10)=D at *;have e2:(-(m:Int)).tmod 10 = -((m % 10:Nat):Int):=by rw[Int.neg_tmod,Int.tmod_eq_emod_of_nonneg (by omega)];omega
     refine ai.aG (oL (by simp) ?_) rfl;unfold nn aP;intro Q au aA aB;repeat' first|simp (disch:=omega) only[go_sem,au,aA,aB,e1,e2]|refine aq ?_|refine aC i2 ?_|refine ak ?_ ?_<;>intro hw<;>try omega|fail
     all_goals first|(exfalso;omega)|(refine aM ?_ rfl;refine congrArg (fun n:Nat=>AV.str (45::(D++[UInt8.ofNat n]))) ?_;omega)
def UK(n:Int)(h0 : -9223372036854775808<=n)(h1:n<=9223372036854775807): ai Tryz.prog ni [I n] (.str (Lib.itoa n)):=by
 by_cases h:0<=n
 ·obtain⟨m,rfl⟩:∃ m:Nat,n=m:=⟨n.toNat,by omega⟩;exact(Lz m).1 (by omega)
 ·obtain⟨m,rfl⟩:∃ m:Nat,n = -(m:Int):=⟨(-n).toNat,by omega⟩;exact(Lz m).2 (by omega)
def kG(c:UInt8): aJ:=if c.toNat=34\/c.toNat=92 then [92,c]else [c]
def tF(s:aJ): aJ:=34::(s.flatMap kG++[34])
def QM{s:aJ}{i:Nat}(h:i<s.length): (s.take (i+1)).flatMap kG=(s.take i).flatMap kG++kG (s.getD i 0):=by
 rw[List.take_succ_eq_append_getElem h,List.flatMap_append];simp[h]
def LA(s:aJ): (s.flatMap kG).length<=2*s.length:=by
 induction s with
 | nil=>simp
 | cons c r ih =>
   rw[de,List.length_append,List.length_cons];have:(kG c).length<=2:=by unfold kG;split<;>simp
   omega
def au_{p:Prop}(h:p:=by simp (disch:=omega) only[dm,cK,and_true,go_sem,Eo,N8,Km,Nat.reduceAdd,Nat.reduceBEq,↓reduceIte,Int.natCast_add,Int.cast_ofNat_Int]<;>(try trivial)<;>(try omega)<;>(try (repeat (first|trivial|(refine And.intro ?_ ?_)|(congr 1;omega))))<;>(try (simp;done))): p:=h
def X0(s:aJ)(hs:s.length<=2 ^ 38): ai Tryz.prog A3 [.str s] (.str (tF s)):=by
 refine ai.aG (Sd (by simp) ?_) rfl;unfold Jm aP;intro Q au aA aB;repeat' first|refine aq ?_|refine ak ?_ ?_<;>intro hw<;>try omega|fail
 with_reducible refine bn [3,4,5,6,7,8,9,10,11,12,13,14,15,16,17,18,19,20,21,22,23,24,25,26,27,28,29] (fun i:Nat=>[(4,I i),(3,.str (34::(s.take i).flatMap kG))]) (fun _=>[]) (fun i=>i<=s.length) (fun i=>s.length-i) (0) ?_ ?_ ?_ ?_
 ·simp
 ·rfl
 ·exact at_
 rintro i r h1;have hq:=LA (s.take i);rw[List.length_take]at hq;have Br:((s.take i).flatMap kG).length<=2 ^ 40:=by omega
 by_cases hi:i<s.length
 ·have ht:=QM hi;generalize (s.take i).flatMap kG=acc at *;by_cases hc:(s.getD i 0).toNat=34\/(s.getD i 0).toNat=92
  ·rw[kG,if_pos hc]at ht;repeat' first|refine aq ?_|refine ak ?_ ?_<;>intro hw<;>try omega|fail
   all_goals first
    | (refine ⟨i + 1, ?_, ?_, by first | rfl | (simp [go_sem]; done), bJ, ?_⟩
       ·dsimp only;omega
       ·dsimp only;omega
       ·dsimp only;rw[ht];exact au_)
    | exact aY
  ·rw[kG,if_neg hc]at ht;repeat' first|refine aq ?_|refine ak ?_ ?_<;>intro hw<;>try omega|fail
   all_goals first
    | (refine ⟨i + 1, ?_, ?_, by first | rfl | (simp [go_sem]; done), bJ, ?_⟩
       ·dsimp only;omega
       ·dsimp only;omega
       ·dsimp only;rw[ht];exact au_)
    | exact aY
 ·have uz:s.take i=s:=br (by omega);rw[uz]at Br ⊢;unfold tF at au aA aB;generalize s.flatMap kG=acc at *;repeat' first|refine aq ?_|refine ak ?_ ?_<;>intro hw<;>try omega|fail
  all_goals first|(refine aM ?_ rfl;simp;done)|exact aY
def ye(v:eg): aJ:=if v.kind=1 then Lib.itoa v.n else if v.kind=2 then tF v.s else if v.kind=3 then(if v.n=1 then mc else kE)else nN
def aaA(v:eg)(h0 : -9223372036854775808<=v.n)(h1:v.n<=9223372036854775807)(hs:v.s.length<=2 ^ 38): ai Tryz.prog C4 [iJ v] (.str (ye v)):=by
 have d1:=UK v.n h0 h1;have d2:=X0 v.s hs;have hS:ye v=if v.kind=1 then Lib.itoa v.n else if v.kind=2 then tF v.s else if v.kind=3 then(if v.n=1 then mc else kE)else nN:=rfl
 rw[hS];clear hS;generalize Lib.itoa v.n=t1 at *;generalize tF v.s=t2 at *;simp only[iJ];refine ai.aG (Uv (by simp) ?_) rfl;unfold KS aP;intro Q au aA aB;repeat' first|refine aq ?_|refine aC d1 ?_|refine aC d2 ?_|refine ak ?_ ?_<;>intro hw<;>try omega|fail
 all_goals (refine aM ?_ rfl;simp_all[mc,kE,nN])
end Go.Proofs.YtmbgnaoilncbnaaGreatDoor
