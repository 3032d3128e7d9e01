/- Part. -/
import Derived.Test.YtcjcnfcedihckaaGreatDoorW23
import Derived.Shelf.Strings.OnBuilder
import Derived.Shelf.Strings.Repeat
import Derived.Shelf.Small.Strs
import Derived.Shelf.Small.Wraps
import Derived.Shelf.LaysM
import Derived.Shelf.Strconv.Itoa3
import Derived.Test.YtcjcnfcedihckaaGreatDoorProg
import Derived.Shelf.Strings.Trim
import Derived.Shelf.Strings.Search3
import Derived.Shelf.Strconv.ErrVarAll
set_option linter.all false
set_option maxHeartbeats 4000000
namespace Go.Proofs.YtcjcnfcedihckaaGreatDoor
open Go.AM
set_option maxRecDepth 4000
def aaT{σ : ae}: View σ (.agg [.bool false,.bool false,.au]) (dI c0):=View.s5 (.cons (.refl _ rfl) (.cons (.refl _ rfl) (.cons (.au _) (.nil _))))
def VO{σ : ae}: View σ (.agg [.bool true,.bool false,.au]) (dI FY):=View.s5 (.cons (.refl _ rfl) (.cons (.refl _ rfl) (.cons (.au _) (.nil _))))
def acS(T:List Tok)(p:Nat): gX T p false 4 [45]=(uS T p==[45]):=by
 rw[AJ T p false [45] (by decide),a_];simp
def Td(s:aI)(hs:s.length<=2 ^ 30): aM aK 231 [.str s] (eC3 (kX s)):=by
 have cl:=Jt s hs;obtain⟨f1,f2⟩:=oB s;have cm:=CY (bN s).1 0 false;have cr:=VK (bN s).1 (by omega) (fun q=>by have:=f2 q;omega);have hok:=N_ (wP s) (by omega);have cc:=AI _ hok;have zb:=aaS (bN s).1;have hd:=acS (bN s).1 0
 have hP:kX s=if(bN s).2.2≠0 then(c0,(bN s).2.1,(bN s).2.2)
  else if(bN s).1.length=1/\gX (bN s).1 0 false 4 [45]=true then(FY,0,0)
  else if(j7 (bN s).1).p<(bN s).1.length then(c0,((bN s).1.getD (j7 (bN s).1).p default).pos,11)
  else if(j7 (bN s).1).bad=true then(c0,(s.length:Int),11)
  else if 12<(j7 (bN s).1).ts.length then(c0,0,24)
  else if lK ⟨false,qJ (bN s).1,(j7 (bN s).1).ts⟩=false then(c0,0,12)
  else(⟨false,qJ (bN s).1,(j7 (bN s).1).ts⟩,0,0):=rfl
 rw[hP,hd];clear hP f2 hd hok;generalize lK ⟨false,qJ (bN s).1,(j7 (bN s).1).ts⟩=rb at *;generalize j7 (bN s).1=r at *;generalize uS (bN s).1 0=mt at *;generalize qJ (bN s).1=n at *;generalize bN s=L at *;obtain⟨T,la,le⟩:=L;obtain⟨rts,rp,acT⟩:=r;dsimp only at *;simp only[eC3]at ⊢;simp only[NJ,tj]at cl;simp only[dM,Int.cast_ofNat_Int]at cm cr;simp only[dI,jL]at cr cc;have e1:∀ σ : ae,View σ (.agg [.bool false,.bool false,.au]) (dI c0):=fun σ=>aaT;have e2:∀ σ : ae,View σ (.agg [.bool true,.bool false,.au]) (dI FY):=fun σ=>VO;have e3:∀ σ : ae,View σ (.agg [.bool false,.bool n,.aO false ES (rts.map dH)]) (dI ⟨false,n,rts⟩):=fun σ=>View.eqv rfl (yf _);by_cases h1:le≠0
 ·rw[if_pos h1];generalize dI c0=E at *;refine aR lI ?_;intro Q aC aD aE;repeat' first|refine aG ?_|refine aF ?_ ?_<;>intro hw<;>try omega|fail
  all_goals exact cK (mX (e1 _))
 rw[if_neg h1];by_cases h2:T.length=1/\(mt==[45])=true
 ·rw[if_pos h2];generalize dI FY=E2 at *;obtain⟨h2,h3⟩:=h2;refine aR lI ?_;intro Q aC aD aE;repeat' first|simp (disch:=omega) only[go_sem,aC,aD,aE,h2,h3]|refine aG ?_|refine c8 cm ?_|refine aF ?_ ?_<;>intro hw<;>try omega|fail
  all_goals first|exact cK (mX (e2 _))|exact bK
 rw[if_neg h2];by_cases h4:rp<T.length
 ·rw[if_pos h4];generalize dI c0=E at *;refine aR lI ?_;intro Q aC aD aE;repeat' first|refine aG ?_|refine c8 cm ?_|refine c8 cr ?_|refine aF ?_ ?_<;>intro hw<;>try omega|fail
  all_goals first|exact cK (mX (e1 _))|exact bK
 rw[if_neg h4];by_cases h5:acT=true
 ·rw[if_pos h5];subst h5;generalize dI c0=E at *;refine aR lI ?_;intro Q aC aD aE;repeat' first|refine aG ?_|refine c8 cm ?_|refine c8 cr ?_|refine aF ?_ ?_<;>intro hw<;>try omega|fail
  all_goals first|exact cK (mX (e1 _))|exact bK
 rw[if_neg h5];obtain rfl:acT=false:=by simpa using h5
 by_cases h6:12<rts.length
 ·rw[if_pos h6];generalize dI c0=E at *;refine aR lI ?_;intro Q aC aD aE;repeat' first|refine aG ?_|refine c8 cm ?_|refine c8 cr ?_|refine aF ?_ ?_<;>intro hw<;>try omega|fail
  all_goals first|exact cK (mX (e1 _))|exact bK
 rw[if_neg h6];cases rb with
 | false =>
   rw[if_pos rfl];generalize dI c0=E at *;simp only[nF,aB,if_false]at cc;refine aR lI ?_;intro Q aC aD aE;repeat' first|refine aG ?_|refine c8 cm ?_|refine c8 cr ?_|refine aF ?_ ?_<;>intro hw<;>try omega|fail
   all_goals first|exact cK (mX (e1 _))|exact bK
 | true =>
   rw[if_neg (by simp)];generalize dI ⟨false,n,rts⟩=E3 at *;simp only[nF,if_true]at cc;refine aR lI ?_;intro Q aC aD aE;repeat' first|refine aG ?_|refine c8 cm ?_|refine c8 cr ?_|refine aF ?_ ?_<;>intro hw<;>try omega|fail
   all_goals first|exact cK (mX (e3 _))|exact bK
structure Lp2 where
 t:Test
 acc:List Test
 p:Nat
 b:Bool
 f:Nat
def AL(t:Test)(a b:Int): Bool:=kE a b && (decide (t.kind=1) ||(decide (a≠3) && decide (b≠3)))
def K_(t:Test)(a b:Int): aM aK 267 [dH t,I a,I b] (.bool (AL t a b)):=by
 have hf:=oW a b;have hS:AL t a b=(kE a b && (decide (t.kind=1) ||(decide (a≠3) && decide (b≠3)))):=rfl;rw[hS];generalize kE a b=f at *;simp only[dH,dG];refine aR Ny ?_;intro Q aC aD aE;repeat' first|refine aG ?_|refine aF ?_ ?_<;>intro hw<;>try omega|fail
 all_goals (refine aS ?_ rfl;refine congrArg AV.bool ?_;rw[a_];simp_all)
def Hy(t:Test): List Expr:=if t.kind=6 then [t.a,t.b]else [t.a]
def Te(t:Test): aM aK 266 [dH t] (dG (Hy t)):=by
 have h1:∀ σ : ae,View σ (.aO true EX [.agg [I t.a.op,I t.a.v.kind,I t.a.v.n,.str t.a.v.s,.str t.a.s,.aO false EX (t.a.l.map bg)]]) (dG [t.a]):=fun σ=>by
  rw[dG,aU,bf,bG];exact View.weak _ _ _ (by simp)
 have h2:∀ σ : ae,View σ (.aO true EX [.agg [I t.a.op,I t.a.v.kind,I t.a.v.n,.str t.a.v.s,.str t.a.s,.aO false EX (t.a.l.map bg)],.agg [I t.b.op,I t.b.v.kind,I t.b.v.n,.str t.b.v.s,.str t.b.s,.aO false EX (t.b.l.map bg)]]) (dG [t.a,t.b]):=fun σ=>by
  rw[dG,aU,aU,bf,bG,bG];exact View.weak _ _ _ (by simp)
 unfold Hy;by_cases h6:t.kind=6
 ·rw[if_pos h6];generalize dG [t.a,t.b]=E at *;simp only[dH,dG];refine aR Bp ?_;intro Q aC aD aE;repeat' first|simp (disch:=omega) only[go_sem,aC,aD,aE,h6]|refine aG ?_|refine aF ?_ ?_<;>intro hw<;>try omega|fail
  all_goals exact fg (h2 _)
 ·rw[if_neg h6];generalize dG [t.a]=E at *;simp only[dH,dG];refine aR Bp ?_;intro Q aC aD aE;repeat' first|refine aG ?_|refine aF ?_ ?_<;>intro hw<;>try omega|fail
  all_goals exact fg (h1 _)
def jU(cs:List cV)(x:Expr): Int × Int:=if di x then iU cs x else(0,2)
def xu(cs:List cV)(hcs:cs.length<=2 ^ 60)(x:Expr)(hx:jD x)(hz:fT x<=2 ^ 60): aM aK 234 [bg x,cH cs] (.bU [I (jU cs x).1,I (jU cs x).2]):=by
 have:=P6 cs hcs x hx hz;unfold jU;cases hr:di x<;>simpa[hr]using this
def AN(cs:List cV)(kind:Int)(t:Test): Int :=
 if(jU cs t.a).2≠0 then(jU cs t.a).2
 else if t.kind=6 then(if(jU cs t.b).2≠0 then(jU cs t.b).2 else if AL t kind (jU cs t.a).1 && AL t kind (jU cs t.b).1 then 0 else 14)
 else if AL t kind (jU cs t.a).1 then 0 else 14
def yY(cs:List cV)(kind:Int)(c:Cell): Int:=if lK c then(match c.tests.find? (fun t=>AN cs kind t != 0)with
 | some t=>AN cs kind t
 | none=>0)else 2
def aaU{cs:List cV}{kind:Int}{c:Cell}{i:Nat}{e:Int}(hr:lK c=true)(hi:i<c.tests.length)(h:∀ k,k<i->(AN cs kind (c.tests.getD k default) != 0)=false)(he:AN cs kind (c.tests.getD i default)=e)(hne:e≠0): yY cs kind c=e:=by
 unfold yY;rw[if_pos hr,wO (p:=fun t=>AN cs kind t != 0) hi h (by rw[he];simpa using hne)];exact he
def Yp{cs:List cV}{kind:Int}{c:Cell}(hr:lK c=true)(h:∀ k,k<c.tests.length->(AN cs kind (c.tests.getD k default) != 0)=false): yY cs kind c=0:=by
 unfold yY;rw[if_pos hr,xm (p:=fun t=>AN cs kind t != 0) h]
def Tf(cs:List cV)(hcs:cs.length<=2 ^ 60)(kind:Int)(c:Cell)(h:K6 c): aM aK 232 [dI c,I kind,cH cs] (I (yY cs kind c)):=by
 have hR:=AI c h;obtain⟨hl,ht⟩:=h;cases hr:lK c with
 | false =>
   rw[show yY cs kind c=2 from by unfold yY;rw[if_neg (by simp[hr])]];rw[hr]at hR;simp only[nF,aB,if_false]at hR;simp only[dI,jL,cH]at hR ⊢;refine aR Bo ?_;intro Q aC aD aE;repeat' first|refine aG ?_|refine aF ?_ ?_<;>intro hw<;>try omega|fail
   exact aS rfl rfl
 | true =>
   rw[hr]at hR;simp only[nF,if_true]at hR;simp only[dI,jL,cH]at hR ⊢;refine aR Bo ?_;intro Q aC aD aE;repeat' first|refine aG ?_|refine aF ?_ ?_<;>intro hw<;>try omega|fail
   with_reducible refine bX [6,9,10,12,13,14,23,24,25,26,27,28,29,30,31,32,33,34,35,36,37,38,39,40,41,42,43,44,45,46,47,48,49,50,51,52,53] (fun q:Nat × List aZ=>[(23,I q.1)]) (fun q=> .cells [.bool c.any,.bool c.neg,.aO false ES (c.tests.map dH)]::q.2) (fun q=>q.1<=c.tests.length/\ ∀ k,k<q.1->(AN cs kind (c.tests.getD k default) != 0)=false) (fun q=>c.tests.length-q.1) (0,[]) ?_ ?_ ?_ ?_
   ·simp
   ·rfl
   ·exact at_
   rintro⟨i,τ⟩ r ⟨h1,h2⟩;dsimp only at h1 h2;by_cases hi:i<c.tests.length
   ·have vQ:=ht _ (bH hi);have pL:=fun e he hne=>aaU (cs:=cs) (kind:=kind) (e:=e) hr hi h2 he hne;have de:=fun he=>bP h2 (i:=i) he;obtain⟨t,FZ⟩:∃ t,c.tests.getD i default=t:=⟨_,rfl⟩;rw[FZ]at vQ pL de;have ka:=xu cs hcs t.a vQ.1.1 vQ.1.2;have kb:=xu cs hcs t.b vQ.2.1 vQ.2.2;have fa:=K_ t kind (jU cs t.a).1;have fb:=K_ t kind (jU cs t.b).1;have hp:=Te t;simp only[AN]at pL de;generalize AL t kind (jU cs t.a).1=va at *;generalize AL t kind (jU cs t.b).1=vb at *;generalize jU cs t.a=ra at *;generalize jU cs t.b=rb at *;rw[bG]at ka kb;simp only[dH,dG,cH]at ka kb fa fb;by_cases h6:t.kind=6
    ·rw[Hy,if_pos h6,dG,aU,aU,bf,bG,bG]at hp;simp only[dH,dG]at hp;simp only[if_pos h6]at pL de;repeat' first|simp (disch:=omega) only[go_sem,aC,aD,aE,FZ]|refine aG ?_|refine aF ?_ ?_<;>intro hw<;>try omega|fail
     with_reducible refine bX [6,10,12,13,14,30,31,32,33,34,35,36,37,38,39,40,41,42,43,44,45,46,47,48,49,50] (fun q:Int × Bool × List aZ=>[(30,I q.1),(10,.bool q.2.1)]) (fun q=> .cells [.bool c.any,.bool c.neg,.aO false ES (c.tests.map dH)]::q.2.2) (fun q=>((q.1=0/\q.2.1=true)\/(q.1=1/\ra.2=0/\q.2.1=va)\/(q.1=2/\ra.2=0/\rb.2=0/\q.2.1=(va && vb)))/\q.2.2[τ.length]? = some (.cells [I t.kind,I t.a.op,I t.a.v.kind,I t.a.v.n,.str t.a.v.s,.str t.a.s,.aO false EX (t.a.l.map bg),I t.b.op,I t.b.v.kind,I t.b.v.n,.str t.b.v.s,.str t.b.s,.aO false EX (t.b.l.map bg),.bool t.lo,.bool t.hi])) (fun q=>(2-q.1).toNat) (0,true,τ++[.cells [I t.kind,I t.a.op,I t.a.v.kind,I t.a.v.n,.str t.a.v.s,.str t.a.s,.aO false EX (t.a.l.map bg),I t.b.op,I t.b.v.kind,I t.b.v.n,.str t.b.v.s,.str t.b.s,.aO false EX (t.b.l.map bg),.bool t.lo,.bool t.hi]]) ?_ ?_ ?_ ?_
     ·exact⟨.inl ⟨rfl,rfl⟩,by simp⟩
     ·rfl
     ·exact at_
     clear hp;rintro⟨j,ok,Hz⟩ r2 ⟨hj,hk⟩;dsimp only at hj hk;have lj:=fun d:aZ=>(aH (l₁:=Hz) (l₂:=[d]) (aP.1 hk).1).trans hk;rcases hj with⟨rfl,rfl⟩|⟨rfl,hra,rfl⟩|⟨rfl,hra,hrb,rfl⟩
     ·repeat' first|simp (disch:=omega) only[go_sem,aC,aD,aE,hk,lj,Int.toNat_one]|refine aG ?_|refine aF ?_ ?_<;>intro hw<;>try omega|fail
      all_goals first
       |(refine aS ?_ rfl;refine congrArg I ?_;symm;refine pL _ ?_ ?_<;>(clear pL de;simp_all;done))
       | (refine ⟨(1, va, Hz ++ [.cells [I t.a.op, I t.a.v.kind, I t.a.v.n, .str t.a.v.s, .str t.a.s, .aO false EX (t.a.l.map bg)]]), ?_, ?_, ?_, da, at_⟩ <;> (try dsimp only)
          ·exact⟨.inr (.inl ⟨rfl,by assumption,rfl⟩),lj _⟩
          ·omega
          all_goals (first|rfl|(simp[go_sem];done)))
       | exact bK
     ·cases ok
      ·repeat' first|simp (disch:=omega) only[go_sem,aC,aD,aE,hk,lj,Int.toNat_one]|refine aG ?_|refine aF ?_ ?_<;>intro hw<;>try omega|fail
       all_goals first
        |(refine aS ?_ rfl;refine congrArg I ?_;symm;refine pL _ ?_ ?_<;>(clear pL de;simp_all;done))
        | (refine ⟨(2, false, Hz ++ [.cells [I t.b.op, I t.b.v.kind, I t.b.v.n, .str t.b.v.s, .str t.b.s, .aO false EX (t.b.l.map bg)]]), ?_, ?_, ?_, da, at_⟩ <;> (try dsimp only)
           ·exact⟨.inr (.inr ⟨rfl,by assumption,by assumption,rfl⟩),lj _⟩
           ·omega
           all_goals (first|rfl|(simp[go_sem];done)))
        | exact bK
      ·repeat' first|simp (disch:=omega) only[go_sem,aC,aD,aE,hk,lj,Int.toNat_one]|refine aG ?_|refine aF ?_ ?_<;>intro hw<;>try omega|fail
       all_goals first
        |(refine aS ?_ rfl;refine congrArg I ?_;symm;refine pL _ ?_ ?_<;>(clear pL de;simp_all;done))
        | (refine ⟨(2, vb, Hz ++ [.cells [I t.b.op, I t.b.v.kind, I t.b.v.n, .str t.b.v.s, .str t.b.s, .aO false EX (t.b.l.map bg)]]), ?_, ?_, ?_, da, at_⟩ <;> (try dsimp only)
           ·exact⟨.inr (.inr ⟨rfl,by assumption,by assumption,rfl⟩),lj _⟩
           ·omega
           all_goals (first|rfl|(simp[go_sem];done)))
        | exact bK
     ·repeat' first|simp (disch:=omega) only[go_sem,aC,aD,aE,hk,lj]|refine aG ?_|refine aF ?_ ?_<;>intro hw<;>try omega|fail
      all_goals first
       |(refine aS ?_ rfl;refine congrArg I ?_;symm;refine pL _ ?_ ?_<;>(clear pL de;simp_all;done))
       | (refine ⟨(i + 1, Hz), ?_, ?_, ?_, da, at_⟩ <;> (try dsimp only)
          ·exact⟨by omega,de (by clear pL de;simp_all)⟩
          ·omega
          all_goals (first|rfl|(simp[go_sem];done)))
       | exact bK
    ·rw[Hy,if_neg h6,dG,aU,bf,bG]at hp;simp only[dH,dG]at hp;simp only[if_neg h6]at pL de;repeat' first|simp (disch:=omega) only[go_sem,aC,aD,aE,FZ]|refine aG ?_|refine aF ?_ ?_<;>intro hw<;>try omega|fail
     with_reducible refine bX [6,10,12,13,14,30,31,32,33,34,35,36,37,38,39,40,41,42,43,44,45,46,47,48,49,50] (fun q:Int × Bool × List aZ=>[(30,I q.1),(10,.bool q.2.1)]) (fun q=> .cells [.bool c.any,.bool c.neg,.aO false ES (c.tests.map dH)]::q.2.2) (fun q=>((q.1=0/\q.2.1=true)\/(q.1=1/\ra.2=0/\q.2.1=va))/\q.2.2[τ.length]? = some (.cells [I t.kind,I t.a.op,I t.a.v.kind,I t.a.v.n,.str t.a.v.s,.str t.a.s,.aO false EX (t.a.l.map bg),I t.b.op,I t.b.v.kind,I t.b.v.n,.str t.b.v.s,.str t.b.s,.aO false EX (t.b.l.map bg),.bool t.lo,.bool t.hi])) (fun q=>(2-q.1).toNat) (0,true,τ++[.cells [I t.kind,I t.a.op,I t.a.v.kind,I t.a.v.n,.str t.a.v.s,.str t.a.s,.aO false EX (t.a.l.map bg),I t.b.op,I t.b.v.kind,I t.b.v.n,.str t.b.v.s,.str t.b.s,.aO false EX (t.b.l.map bg),.bool t.lo,.bool t.hi]]) ?_ ?_ ?_ ?_
     ·exact⟨.inl ⟨rfl,rfl⟩,by simp⟩
     ·rfl
     ·exact at_
     clear hp;rintro⟨j,ok,Hz⟩ r2 ⟨hj,hk⟩;dsimp only at hj hk;have lj:=fun d:aZ=>(aH (l₁:=Hz) (l₂:=[d]) (aP.1 hk).1).trans hk;rcases hj with⟨rfl,rfl⟩|⟨rfl,hra,rfl⟩
     ·repeat' first|simp (disch:=omega) only[go_sem,aC,aD,aE,hk,lj,Int.toNat_one]|refine aG ?_|refine aF ?_ ?_<;>intro hw<;>try omega|fail
      all_goals first
       |(refine aS ?_ rfl;refine congrArg I ?_;symm;refine pL _ ?_ ?_<;>(clear pL de;simp_all;done))
       | (refine ⟨(1, va, Hz ++ [.cells [I t.a.op, I t.a.v.kind, I t.a.v.n, .str t.a.v.s, .str t.a.s, .aO false EX (t.a.l.map bg)]]), ?_, ?_, ?_, da, at_⟩ <;> (try dsimp only)
          ·exact⟨.inr ⟨rfl,by assumption,rfl⟩,lj _⟩
          ·omega
          all_goals (first|rfl|(simp[go_sem];done)))
       | exact bK
     ·repeat' first|simp (disch:=omega) only[go_sem,aC,aD,aE,hk,lj]|refine aG ?_|refine aF ?_ ?_<;>intro hw<;>try omega|fail
      all_goals first
       |(refine aS ?_ rfl;refine congrArg I ?_;symm;refine pL _ ?_ ?_<;>(clear pL de;simp_all;done))
       | (refine ⟨(i + 1, Hz), ?_, ?_, ?_, da, at_⟩ <;> (try dsimp only)
          ·exact⟨by omega,de (by clear pL de;simp_all)⟩
          ·omega
          all_goals (first|rfl|(simp[go_sem];done)))
       | exact bK
   ·repeat' first|refine aG ?_|refine aF ?_ ?_<;>intro hw<;>try omega|fail
    refine aS ?_ rfl;rw[Yp hr (fun k hk=>h2 k (by omega))]
end Go.Proofs.YtcjcnfcedihckaaGreatDoor
namespace Go.Proofs
open Go.Shelf
def Tryz.EH: Go.Shelf.Ren:=⟨fun|156=>90|165=>131|166=>21|169=>23|240=>46|241=>167|276=>92|277=>205|n=>n,fun|31=>31|9=>9|3=>3|4=>4|0=>0|20=>20|72=>56|76=>60|70=>53|37=>54|75=>59|127=>93|164=>123|5=>5|80=>63|n=>n,fun|n=>n⟩
def Tryz.Rr: Go.Proofs.Lays.n156 Tryz.prog Tryz.EH:= {
 mixed:=by kernel_rfl
 f156:=Tryz.func90.trans (congrArg some (by kernel_rfl))
 f165:=Tryz.func131.trans (congrArg some (by kernel_rfl))
 f166:=Tryz.func21.trans (congrArg some (by kernel_rfl))
 f169:=Tryz.func23.trans (congrArg some (by kernel_rfl))
 f240:=Tryz.func46.trans (congrArg some (by kernel_rfl))
 f241:=Tryz.func167.trans (congrArg some (by kernel_rfl))
 f276:=Tryz.func92.trans (congrArg some (by kernel_rfl))
 f277:=Tryz.func205.trans (congrArg some (by kernel_rfl))
 t0:=Tryz.underlying0
 a0:=Tryz.isAgg0
 z0:=Tryz.sizeOf0
 v0:=Tryz.zeroValue0
 t3:=Tryz.underlying3
 a3:=Tryz.isAgg3
 z3:=Tryz.sizeOf3
 v3:=Tryz.zeroValue3
 t4:=Tryz.underlying4
 a4:=Tryz.isAgg4
 z4:=Tryz.sizeOf4
 v4:=Tryz.zeroValue4
 t9:=Tryz.underlying9
 a9:=Tryz.isAgg9
 z9:=Tryz.sizeOf9
 v9:=Tryz.zeroValue9
 t20:=Tryz.underlying20
 a20:=Tryz.isAgg20
 z20:=Tryz.sizeOf20
 v20:=Tryz.zeroValue20
 t31:=Tryz.underlying31
 a31:=Tryz.isAgg31
 z31:=Tryz.sizeOf31
 v31:=Tryz.zeroValue31
 t37:=Tryz.underlying54
 a37:=Tryz.isAgg54
 z37:=Tryz.sizeOf54
 v37:=Tryz.zeroValue54
 t70:=Tryz.underlying53
 a70:=Tryz.isAgg53
 z70:=Tryz.sizeOf53
 v70:=Tryz.zeroValue53
 t72:=Tryz.underlying56
 a72:=Tryz.isAgg56
 z72:=Tryz.sizeOf56
 v72:=Tryz.zeroValue56
 t75:=Tryz.underlying59
 a75:=Tryz.isAgg59
 z75:=Tryz.sizeOf59
 v75:=Tryz.zeroValue59
 t76:=Tryz.underlying60
 a76:=Tryz.isAgg60
 z76:=Tryz.sizeOf60
 v76:=Tryz.zeroValue60
 t127:=Tryz.underlying93
 a127:=Tryz.isAgg93
 z127:=Tryz.sizeOf93
 v127:=Tryz.zeroValue93
 t164:=Tryz.underlying123
 a164:=Tryz.isAgg123
 z164:=Tryz.sizeOf123
 v164:=Tryz.zeroValue123 }
def Tryz.vV: Builder.Extra Tryz.prog Tryz.EH:= {
 sizeBuilder:=by kernel_rfl
 liesBuilder:=by kernel_rfl
 t5:=Tryz.underlying5
 a5:=Tryz.isAgg5
 z5:=Tryz.sizeOf5
 v5:=Tryz.zeroValue5
 infoByte:=by kernel_rfl
 cellsByte:=by kernel_rfl
 sizeByte:=by kernel_rfl
 neB5:=by decide }
open Go.RowKit in
def Tryz.strings_Join_none (a : Option Addr) (c : Nat) (sep : ByteArray) (w : World) :
    Calls Tryz.prog 90 #[.slice a 0 c,.string sep] w fun e w'=>e = .returned (.string ⟨#[]⟩)/\w'=w:=Any.strings_Join_none Tryz.Rr Tryz.vV a c sep w
open Go.RowKit in
def Tryz.strings_Join (bk o c : Nat) (xs : List ByteArray) (sep : ByteArray) (w : World) (hcells : ∀ (j : Nat) x, xs[j]? = some x -> w.cell? ⟨bk, o + j, none⟩ = some (.string x)) (hbk : bk < w.heap.size) (hN : xs.length <= 140737488355328) (hcap : xs.length <= c) (hlen : (Lib.join (xs.map (·.data.toList)) sep.data.toList).length <= 140737488355328) :
    Calls Tryz.prog 90 #[.slice (some ⟨bk,o,none⟩) xs.length c,.string sep] w fun e w'=>e = .returned (.string ⟨(Lib.join (xs.map (·.data.toList)) sep.data.toList).toArray⟩)/\Below w.heap.size w w':=Any.strings_Join Tryz.Rr Tryz.vV bk o c xs sep w hcells hbk hN hcap hlen
def Tryz.P8: Go.Shelf.Ren:=⟨fun|160=>25|232=>53|231=>52|227=>54|234=>56|233=>55|236=>58|235=>57|228=>98|271=>101|151=>100|197=>99|120=>144|152=>143|260=>142|137=>179|119=>180|224=>147|225=>146|217=>145|266=>181|n=>n,fun|9=>9|4=>4|3=>3|5=>5|117=>99|116=>98|0=>0|124=>102|21=>21|105=>129|46=>39|119=>216|139=>219|138=>218|n=>n,fun|3=>1|4=>2|n=>n⟩
def Tryz.aaV: Go.Proofs.Lays.n160 Tryz.prog Tryz.P8:= {
 mixed:=by kernel_rfl
 f119:=Tryz.func180.trans (congrArg some (by kernel_rfl))
 f120:=Tryz.func144.trans (congrArg some (by kernel_rfl))
 f137:=Tryz.func179.trans (congrArg some (by kernel_rfl))
 f151:=Tryz.func100.trans (congrArg some (by kernel_rfl))
 f152:=Tryz.func143.trans (congrArg some (by kernel_rfl))
 f160:=Tryz.func25.trans (congrArg some (by kernel_rfl))
 f197:=Tryz.func99.trans (congrArg some (by kernel_rfl))
 f217:=Tryz.func145.trans (congrArg some (by kernel_rfl))
 f224:=Tryz.func147.trans (congrArg some (by kernel_rfl))
 f225:=Tryz.func146.trans (congrArg some (by kernel_rfl))
 f227:=Tryz.func54.trans (congrArg some (by kernel_rfl))
 f228:=Tryz.func98.trans (congrArg some (by kernel_rfl))
 f231:=Tryz.func52.trans (congrArg some (by kernel_rfl))
 f232:=Tryz.func53.trans (congrArg some (by kernel_rfl))
 f233:=Tryz.func55.trans (congrArg some (by kernel_rfl))
 f234:=Tryz.func56.trans (congrArg some (by kernel_rfl))
 f235:=Tryz.func57.trans (congrArg some (by kernel_rfl))
 f236:=Tryz.func58.trans (congrArg some (by kernel_rfl))
 f260:=Tryz.func142.trans (congrArg some (by kernel_rfl))
 f266:=Tryz.func181.trans (congrArg some (by kernel_rfl))
 f271:=Tryz.func101.trans (congrArg some (by kernel_rfl))
 t0:=Tryz.underlying0
 a0:=Tryz.isAgg0
 z0:=Tryz.sizeOf0
 v0:=Tryz.zeroValue0
 t3:=Tryz.underlying3
 a3:=Tryz.isAgg3
 z3:=Tryz.sizeOf3
 v3:=Tryz.zeroValue3
 t4:=Tryz.underlying4
 a4:=Tryz.isAgg4
 z4:=Tryz.sizeOf4
 v4:=Tryz.zeroValue4
 t5:=Tryz.underlying5
 a5:=Tryz.isAgg5
 z5:=Tryz.sizeOf5
 v5:=Tryz.zeroValue5
 t9:=Tryz.underlying9
 a9:=Tryz.isAgg9
 z9:=Tryz.sizeOf9
 v9:=Tryz.zeroValue9
 t21:=Tryz.underlying21
 a21:=Tryz.isAgg21
 z21:=Tryz.sizeOf21
 v21:=Tryz.zeroValue21
 t46:=Tryz.underlying39
 a46:=Tryz.isAgg39
 z46:=Tryz.sizeOf39
 v46:=Tryz.zeroValue39
 t105:=Tryz.underlying129
 a105:=Tryz.isAgg129
 z105:=Tryz.sizeOf129
 v105:=Tryz.zeroValue129
 t116:=Tryz.underlying98
 a116:=Tryz.isAgg98
 z116:=Tryz.sizeOf98
 t117:=Tryz.underlying99
 a117:=Tryz.isAgg99
 z117:=Tryz.sizeOf99
 v117:=Tryz.zeroValue99
 t119:=Tryz.underlying216
 a119:=Tryz.isAgg216
 z119:=Tryz.sizeOf216
 t124:=Tryz.underlying102
 a124:=Tryz.isAgg102
 z124:=Tryz.sizeOf102
 v124:=Tryz.zeroValue102
 t138:=Tryz.underlying218
 a138:=Tryz.isAgg218
 z138:=Tryz.sizeOf218
 v138:=Tryz.zeroValue218
 t139:=Tryz.underlying219
 a139:=Tryz.isAgg219
 z139:=Tryz.sizeOf219
 v139:=Tryz.zeroValue219
 g3:=by kernel_rfl
 g4:=by kernel_rfl }
open Go.RowKit in
def Tryz.strings_Trim_one (s : ByteArray) (c : UInt8) (hc : c.toNat < 128) (w : World) (hs : s.size <= 9223372036854775807) :
    Calls Tryz.prog 25 #[.string s,.string ⟨#[c]⟩] w fun e w'=>e = .returned (.string ⟨(Lib.trimB s.data.toList c).toArray⟩)/\(w'=w\/w'=w.drew):=Any.strings_Trim_one Tryz.aaV s c hc w hs
def Tryz.P9: Go.Shelf.Ren:=⟨fun|121=>169|214=>207|n=>n,fun|4=>4|9=>9|n=>n,fun|n=>n⟩
def Tryz.aaW: Go.Proofs.Lays.n121 Tryz.prog Tryz.P9:= {
 mixed:=by kernel_rfl
 f121:=Tryz.func169.trans (congrArg some (by kernel_rfl))
 f214:=Tryz.func207.trans (congrArg some (by kernel_rfl))
 t4:=Tryz.underlying4
 a4:=Tryz.isAgg4
 z4:=Tryz.sizeOf4
 v4:=Tryz.zeroValue4
 t9:=Tryz.underlying9
 a9:=Tryz.isAgg9
 z9:=Tryz.sizeOf9
 v9:=Tryz.zeroValue9 }
open Go.RowKit in
def Tryz.strconv_FormatBool (b : Bool) (w : World) :
    Calls Tryz.prog 169 #[.bool b] w fun e w'=>e = .returned (.string ⟨(Lib.formatBool b).toArray⟩)/\w'=w:=Any.strconv_FormatBool Tryz.aaW b w
def Tryz.Oa: Go.Shelf.Ren:=⟨fun|171=>41|243=>86|246=>130|283=>163|284=>164|285=>165|286=>166|129=>201|317=>200|318=>202|319=>203|320=>204|337=>242|338=>243|n=>n,fun|3=>3|9=>9|2=>2|4=>4|171=>203|0=>0|53=>166|37=>54|5=>5|173=>206|212=>243|51=>221|20=>20|213=>244|46=>39|232=>314|233=>315|n=>n,fun|17=>3|18=>4|19=>5|n=>n⟩
def Tryz.Yq: Go.Proofs.LaysM.n171 Tryz.prog Tryz.Oa:= {
 mixed:=by kernel_rfl
 f129:=Tryz.func201.trans (congrArg some (by kernel_rfl))
 f171:=Tryz.func41.trans (congrArg some (by kernel_rfl))
 f243:=Tryz.func86.trans (congrArg some (by kernel_rfl))
 f246:=Tryz.func130.trans (congrArg some (by kernel_rfl))
 f283:=Tryz.func163.trans (congrArg some (by kernel_rfl))
 f284:=Tryz.func164.trans (congrArg some (by kernel_rfl))
 f285:=Tryz.func165.trans (congrArg some (by kernel_rfl))
 f286:=Tryz.func166.trans (congrArg some (by kernel_rfl))
 f317:=Tryz.func200.trans (congrArg some (by kernel_rfl))
 f318:=Tryz.func202.trans (congrArg some (by kernel_rfl))
 f319:=Tryz.func203.trans (congrArg some (by kernel_rfl))
 f320:=Tryz.func204.trans (congrArg some (by kernel_rfl))
 f337:=Tryz.func242.trans (congrArg some (by kernel_rfl))
 f338:=Tryz.func243.trans (congrArg some (by kernel_rfl))
 t0:=Tryz.underlying0
 a0:=Tryz.isAgg0
 z0:=Tryz.sizeOf0
 v0:=Tryz.zeroValue0
 t2:=Tryz.underlying2
 a2:=Tryz.isAgg2
 z2:=Tryz.sizeOf2
 v2:=Tryz.zeroValue2
 t3:=Tryz.underlying3
 a3:=Tryz.isAgg3
 z3:=Tryz.sizeOf3
 v3:=Tryz.zeroValue3
 t4:=Tryz.underlying4
 a4:=Tryz.isAgg4
 z4:=Tryz.sizeOf4
 v4:=Tryz.zeroValue4
 t5:=Tryz.underlying5
 a5:=Tryz.isAgg5
 z5:=Tryz.sizeOf5
 v5:=Tryz.zeroValue5
 t9:=Tryz.underlying9
 a9:=Tryz.isAgg9
 z9:=Tryz.sizeOf9
 v9:=Tryz.zeroValue9
 t20:=Tryz.underlying20
 a20:=Tryz.isAgg20
 z20:=Tryz.sizeOf20
 v20:=Tryz.zeroValue20
 t37:=Tryz.underlying54
 a37:=Tryz.isAgg54
 z37:=Tryz.sizeOf54
 v37:=Tryz.zeroValue54
 t46:=Tryz.underlying39
 a46:=Tryz.isAgg39
 z46:=Tryz.sizeOf39
 v46:=Tryz.zeroValue39
 t51:=Tryz.underlying221
 a51:=Tryz.isAgg221
 z51:=Tryz.sizeOf221
 v51:=Tryz.zeroValue221
 t53:=Tryz.underlying166
 a53:=Tryz.isAgg166
 z53:=Tryz.sizeOf166
 v53:=Tryz.zeroValue166
 t171:=Tryz.underlying203
 a171:=Tryz.isAgg203
 z171:=Tryz.sizeOf203
 v171:=Tryz.zeroValue203
 t173:=Tryz.underlying206
 a173:=Tryz.isAgg206
 z173:=Tryz.sizeOf206
 v173:=Tryz.zeroValue206
 t212:=Tryz.underlying243
 a212:=Tryz.isAgg243
 z212:=Tryz.sizeOf243
 v212:=Tryz.zeroValue243
 t213:=Tryz.underlying244
 a213:=Tryz.isAgg244
 z213:=Tryz.sizeOf244
 t232:=Tryz.underlying314
 a232:=Tryz.isAgg314
 z232:=Tryz.sizeOf314
 v232:=Tryz.zeroValue314
 t233:=Tryz.underlying315
 a233:=Tryz.isAgg315
 z233:=Tryz.sizeOf315
 v233:=Tryz.zeroValue315
 g17:=by kernel_rfl
 g18:=by kernel_rfl
 g19:=by kernel_rfl
 i0:=by kernel_rfl
 i2:=by kernel_rfl
 i3:=by kernel_rfl
 i4:=by kernel_rfl
 i5:=by kernel_rfl
 i9:=by kernel_rfl
 i20:=by kernel_rfl
 i37:=by kernel_rfl
 i46:=by kernel_rfl
 i51:=by kernel_rfl
 i53:=by kernel_rfl
 i171:=by kernel_rfl
 i173:=by kernel_rfl
 i212:=by kernel_rfl
 i232:=by kernel_rfl
 i233:=by kernel_rfl
 m17:=by kernel_rfl
 m18:=by kernel_rfl
 m19:=by kernel_rfl }
open Go.RowKit Go.Sort Go.Lib in
def Tryz.strconv_Itoa (n : Int) (h0 : -9223372036854775808 ≤ n) (h1 : n ≤ 9223372036854775807) (w : World) (htab : Lib.TabIs Tryz.prog w "internal/strconv.uint64pow10" .u64 Lib.pow10Tab) :
    Calls Tryz.prog 41 #[.int .i64 n] w fun e w'=>e = .returned (.string ⟨(Lib.itoa n).toArray⟩)/\ ∃ k os,w'=grow (w.drewN k) os:=Any.strconv_Itoa Tryz.Yq n h0 h1 w htab
def Tryz.Ob: Go.Shelf.Ren:=⟨fun|172=>223|244=>257|245=>258|247=>282|279=>283|280=>284|281=>285|282=>286|287=>306|316=>307|171=>41|205=>308|321=>317|322=>318|243=>86|246=>130|283=>163|284=>164|285=>165|286=>166|129=>201|317=>200|318=>202|319=>203|320=>204|337=>242|338=>243|n=>n,fun|9=>9|3=>3|75=>59|76=>60|4=>4|5=>5|167=>325|37=>54|0=>0|85=>326|2=>2|168=>328|53=>166|175=>343|46=>39|210=>346|127=>93|145=>353|143=>351|21=>21|171=>203|173=>206|212=>243|51=>221|20=>20|213=>244|232=>314|233=>315|80=>63|n=>n,fun|15=>6|16=>7|17=>3|18=>4|19=>5|n=>n⟩
def Tryz.F0: Go.Proofs.LaysC.n172 Tryz.prog Tryz.Ob:= {
 mixed:=by kernel_rfl
 f129:=Tryz.func201.trans (congrArg some (by kernel_rfl))
 f171:=Tryz.func41.trans (congrArg some (by kernel_rfl))
 f172:=Tryz.func223.trans (congrArg some (by kernel_rfl))
 f205:=Tryz.func308.trans (congrArg some (by kernel_rfl))
 f243:=Tryz.func86.trans (congrArg some (by kernel_rfl))
 f244:=Tryz.func257.trans (congrArg some (by kernel_rfl))
 f245:=Tryz.func258.trans (congrArg some (by kernel_rfl))
 f246:=Tryz.func130.trans (congrArg some (by kernel_rfl))
 f247:=Tryz.func282.trans (congrArg some (by kernel_rfl))
 f279:=Tryz.func283.trans (congrArg some (by kernel_rfl))
 f280:=Tryz.func284.trans (congrArg some (by kernel_rfl))
 f281:=Tryz.func285.trans (congrArg some (by kernel_rfl))
 f282:=Tryz.func286.trans (congrArg some (by kernel_rfl))
 f283:=Tryz.func163.trans (congrArg some (by kernel_rfl))
 f284:=Tryz.func164.trans (congrArg some (by kernel_rfl))
 f285:=Tryz.func165.trans (congrArg some (by kernel_rfl))
 f286:=Tryz.func166.trans (congrArg some (by kernel_rfl))
 f287:=Tryz.func306.trans (congrArg some (by kernel_rfl))
 f316:=Tryz.func307.trans (congrArg some (by kernel_rfl))
 f317:=Tryz.func200.trans (congrArg some (by kernel_rfl))
 f318:=Tryz.func202.trans (congrArg some (by kernel_rfl))
 f319:=Tryz.func203.trans (congrArg some (by kernel_rfl))
 f320:=Tryz.func204.trans (congrArg some (by kernel_rfl))
 f321:=Tryz.func317.trans (congrArg some (by kernel_rfl))
 f322:=Tryz.func318.trans (congrArg some (by kernel_rfl))
 f337:=Tryz.func242.trans (congrArg some (by kernel_rfl))
 f338:=Tryz.func243.trans (congrArg some (by kernel_rfl))
 t0:=Tryz.underlying0
 a0:=Tryz.isAgg0
 z0:=Tryz.sizeOf0
 v0:=Tryz.zeroValue0
 t2:=Tryz.underlying2
 a2:=Tryz.isAgg2
 z2:=Tryz.sizeOf2
 v2:=Tryz.zeroValue2
 t3:=Tryz.underlying3
 a3:=Tryz.isAgg3
 z3:=Tryz.sizeOf3
 v3:=Tryz.zeroValue3
 t4:=Tryz.underlying4
 a4:=Tryz.isAgg4
 z4:=Tryz.sizeOf4
 v4:=Tryz.zeroValue4
 t5:=Tryz.underlying5
 a5:=Tryz.isAgg5
 z5:=Tryz.sizeOf5
 v5:=Tryz.zeroValue5
 t9:=Tryz.underlying9
 a9:=Tryz.isAgg9
 z9:=Tryz.sizeOf9
 v9:=Tryz.zeroValue9
 t20:=Tryz.underlying20
 a20:=Tryz.isAgg20
 z20:=Tryz.sizeOf20
 v20:=Tryz.zeroValue20
 t21:=Tryz.underlying21
 a21:=Tryz.isAgg21
 z21:=Tryz.sizeOf21
 v21:=Tryz.zeroValue21
 t37:=Tryz.underlying54
 a37:=Tryz.isAgg54
 z37:=Tryz.sizeOf54
 v37:=Tryz.zeroValue54
 t46:=Tryz.underlying39
 a46:=Tryz.isAgg39
 z46:=Tryz.sizeOf39
 v46:=Tryz.zeroValue39
 t51:=Tryz.underlying221
 a51:=Tryz.isAgg221
 z51:=Tryz.sizeOf221
 v51:=Tryz.zeroValue221
 t53:=Tryz.underlying166
 a53:=Tryz.isAgg166
 z53:=Tryz.sizeOf166
 v53:=Tryz.zeroValue166
 t75:=Tryz.underlying59
 a75:=Tryz.isAgg59
 z75:=Tryz.sizeOf59
 v75:=Tryz.zeroValue59
 t76:=Tryz.underlying60
 a76:=Tryz.isAgg60
 z76:=Tryz.sizeOf60
 v76:=Tryz.zeroValue60
 t85:=Tryz.underlying326
 a85:=Tryz.isAgg326
 z85:=Tryz.sizeOf326
 v85:=Tryz.zeroValue326
 t127:=Tryz.underlying93
 a127:=Tryz.isAgg93
 z127:=Tryz.sizeOf93
 v127:=Tryz.zeroValue93
 t143:=Tryz.underlying351
 a143:=Tryz.isAgg351
 z143:=Tryz.sizeOf351
 v143:=Tryz.zeroValue351
 t145:=Tryz.underlying353
 a145:=Tryz.isAgg353
 z145:=Tryz.sizeOf353
 v145:=Tryz.zeroValue353
 t167:=Tryz.underlying325
 a167:=Tryz.isAgg325
 z167:=Tryz.sizeOf325
 v167:=Tryz.zeroValue325
 t168:=Tryz.underlying328
 a168:=Tryz.isAgg328
 z168:=Tryz.sizeOf328
 v168:=Tryz.zeroValue328
 t171:=Tryz.underlying203
 a171:=Tryz.isAgg203
 z171:=Tryz.sizeOf203
 v171:=Tryz.zeroValue203
 t173:=Tryz.underlying206
 a173:=Tryz.isAgg206
 z173:=Tryz.sizeOf206
 v173:=Tryz.zeroValue206
 t175:=Tryz.underlying343
 a175:=Tryz.isAgg343
 z175:=Tryz.sizeOf343
 v175:=Tryz.zeroValue343
 t210:=Tryz.underlying346
 a210:=Tryz.isAgg346
 z210:=Tryz.sizeOf346
 v210:=Tryz.zeroValue346
 t212:=Tryz.underlying243
 a212:=Tryz.isAgg243
 z212:=Tryz.sizeOf243
 v212:=Tryz.zeroValue243
 t213:=Tryz.underlying244
 a213:=Tryz.isAgg244
 z213:=Tryz.sizeOf244
 t232:=Tryz.underlying314
 a232:=Tryz.isAgg314
 z232:=Tryz.sizeOf314
 v232:=Tryz.zeroValue314
 t233:=Tryz.underlying315
 a233:=Tryz.isAgg315
 z233:=Tryz.sizeOf315
 v233:=Tryz.zeroValue315
 g15:=by kernel_rfl
 g16:=by kernel_rfl
 g17:=by kernel_rfl
 g18:=by kernel_rfl
 g19:=by kernel_rfl
 t80:=Tryz.underlying63
 a80:=Tryz.isAgg63
 z80:=Tryz.sizeOf63
 v80:=Tryz.zeroValue63
 i0:=by kernel_rfl
 i2:=by kernel_rfl
 i3:=by kernel_rfl
 i4:=by kernel_rfl
 i5:=by kernel_rfl
 i9:=by kernel_rfl
 i20:=by kernel_rfl
 i21:=by kernel_rfl
 i37:=by kernel_rfl
 i46:=by kernel_rfl
 i51:=by kernel_rfl
 i53:=by kernel_rfl
 i75:=by kernel_rfl
 i76:=by kernel_rfl
 i80:=by kernel_rfl
 i85:=by kernel_rfl
 i127:=by kernel_rfl
 i143:=by kernel_rfl
 i145:=by kernel_rfl
 i167:=by kernel_rfl
 i168:=by kernel_rfl
 i171:=by kernel_rfl
 i173:=by kernel_rfl
 i175:=by kernel_rfl
 i210:=by kernel_rfl
 i212:=by kernel_rfl
 i232:=by kernel_rfl
 i233:=by kernel_rfl
 m15:=by kernel_rfl
 m16:=by kernel_rfl
 m17:=by kernel_rfl
 m18:=by kernel_rfl
 m19:=by kernel_rfl
 c0:=by kernel_rfl
 c2:=by kernel_rfl
 c3:=by kernel_rfl
 c4:=by kernel_rfl
 c5:=by kernel_rfl
 c9:=by kernel_rfl
 c20:=by kernel_rfl
 c21:=by kernel_rfl
 c37:=by kernel_rfl
 c46:=by kernel_rfl
 c51:=by kernel_rfl
 c53:=by kernel_rfl
 c75:=by kernel_rfl
 c76:=by kernel_rfl
 c80:=by kernel_rfl
 c85:=by kernel_rfl
 c127:=by kernel_rfl
 c143:=by kernel_rfl
 c145:=by kernel_rfl
 c167:=by kernel_rfl
 c168:=by kernel_rfl
 c171:=by kernel_rfl
 c173:=by kernel_rfl
 c175:=by kernel_rfl
 c210:=by kernel_rfl
 c212:=by kernel_rfl
 c213:=by kernel_rfl
 c232:=by kernel_rfl
 c233:=by kernel_rfl }
open Go.RowKit in
def Tryz.strconv_Atoi_ok (s : ByteArray) (hmax : s.size <= 9223372036854775806) (v : Int) (h : Lib.atoiAll s.data.toList = .ok v) (w : World) :
    Calls Tryz.prog 223 #[.string s] w fun e w'=>e = .returned (.tuple #[.int .i64 v,.nilIface])/\(w'=w\/ ∃ t,w'=Lib.bytesWorld w 5 t):=Any.strconv_Atoi_ok Tryz.F0 s hmax v h w
open Go.RowKit in
def Tryz.strconv_Atoi_syntax_var (s : ByteArray) (hlim : s.size ≤ 281474976710656) (h : Lib.atoiAll s.data.toList = Lib.atoiAll []) (tp : TypeId) (p : Value) (w : World) (hvar : w.var? Tryz.prog "strconv.ErrSyntax" = some #[.iface tp p]) :
    Calls Tryz.prog 223 #[.string s] w fun e w'=> ∃ N,e = .returned (.tuple #[.int .i64 0,.iface 328 (.pointer (some ⟨N,0,none⟩))])/\w.heap.size<=N/\w'.heap[N]? = some (.cells #[.string ⟨#[65,116,111,105]⟩,.string s,.iface tp p] 346 (0,0))/\Below w.heap.size w w':=Any.strconv_Atoi_syntax_var Tryz.F0 s hlim h tp p w hvar
open Go.RowKit in
def Tryz.strconv_Atoi_range_var (s : ByteArray) (hlim : s.size ≤ 281474976710656) (h : Lib.atoiAll s.data.toList = .range) (tp : TypeId) (p : Value) (w : World) (hvar : w.var? Tryz.prog "strconv.ErrRange" = some #[.iface tp p]) :
    Calls Tryz.prog 223 #[.string s] w fun e w'=> ∃ N,e = .returned (.tuple #[.int .i64 (Lib.atoiSat s.data.toList),.iface 328 (.pointer (some ⟨N,0,none⟩))])/\w.heap.size<=N/\w'.heap[N]? = some (.cells #[.string ⟨#[65,116,111,105]⟩,.string s,.iface tp p] 346 (0,0))/\Below w.heap.size w w':=Any.strconv_Atoi_range_var Tryz.F0 s hlim h tp p w hvar
def Tryz.P_: Go.Shelf.Ren:=⟨fun|219=>102|217=>145|225=>146|224=>147|267=>148|266=>181|314=>182|n=>n,fun|9=>9|3=>3|4=>4|5=>5|46=>39|146=>222|51=>221|n=>n,fun|1=>0|n=>n⟩
def Tryz.aaX: Go.Proofs.Lays.n219 Tryz.prog Tryz.P_:= {
 mixed:=by kernel_rfl
 f217:=Tryz.func145.trans (congrArg some (by kernel_rfl))
 f219:=Tryz.func102.trans (congrArg some (by kernel_rfl))
 f224:=Tryz.func147.trans (congrArg some (by kernel_rfl))
 f225:=Tryz.func146.trans (congrArg some (by kernel_rfl))
 f266:=Tryz.func181.trans (congrArg some (by kernel_rfl))
 f267:=Tryz.func148.trans (congrArg some (by kernel_rfl))
 f314:=Tryz.func182.trans (congrArg some (by kernel_rfl))
 t3:=Tryz.underlying3
 a3:=Tryz.isAgg3
 z3:=Tryz.sizeOf3
 v3:=Tryz.zeroValue3
 t4:=Tryz.underlying4
 a4:=Tryz.isAgg4
 z4:=Tryz.sizeOf4
 v4:=Tryz.zeroValue4
 t5:=Tryz.underlying5
 a5:=Tryz.isAgg5
 z5:=Tryz.sizeOf5
 v5:=Tryz.zeroValue5
 t9:=Tryz.underlying9
 a9:=Tryz.isAgg9
 z9:=Tryz.sizeOf9
 v9:=Tryz.zeroValue9
 t46:=Tryz.underlying39
 a46:=Tryz.isAgg39
 z46:=Tryz.sizeOf39
 v46:=Tryz.zeroValue39
 t51:=Tryz.underlying221
 a51:=Tryz.isAgg221
 z51:=Tryz.sizeOf221
 v51:=Tryz.zeroValue221
 t146:=Tryz.underlying222
 a146:=Tryz.isAgg222
 z146:=Tryz.sizeOf222
 v146:=Tryz.zeroValue222
 g1:=by kernel_rfl }
open Go.RowKit Go.Lib in
def Tryz.stringslite_Index_one (s : ByteArray) (c : UInt8) (w : World) :
    Calls Tryz.prog 102 #[.string s,.string ⟨#[c]⟩] w fun e w'=>e = .returned (.int .i64 (Lib.indexByte s.data.toList c))/\w'=w:=Any.stringslite_Index_one Tryz.aaX s c w
def Tryz.Qa: Go.Shelf.Ren:=⟨fun|143=>226|219=>102|217=>145|225=>146|224=>147|267=>148|266=>181|314=>182|n=>n,fun|9=>9|3=>3|4=>4|5=>5|46=>39|146=>222|51=>221|n=>n,fun|1=>0|n=>n⟩
def Tryz.aaY: Go.Proofs.Lays.n143 Tryz.prog Tryz.Qa:= {
 mixed:=by kernel_rfl
 f143:=Tryz.func226.trans (congrArg some (by kernel_rfl))
 f217:=Tryz.func145.trans (congrArg some (by kernel_rfl))
 f219:=Tryz.func102.trans (congrArg some (by kernel_rfl))
 f224:=Tryz.func147.trans (congrArg some (by kernel_rfl))
 f225:=Tryz.func146.trans (congrArg some (by kernel_rfl))
 f266:=Tryz.func181.trans (congrArg some (by kernel_rfl))
 f267:=Tryz.func148.trans (congrArg some (by kernel_rfl))
 f314:=Tryz.func182.trans (congrArg some (by kernel_rfl))
 t3:=Tryz.underlying3
 a3:=Tryz.isAgg3
 z3:=Tryz.sizeOf3
 v3:=Tryz.zeroValue3
 t4:=Tryz.underlying4
 a4:=Tryz.isAgg4
 z4:=Tryz.sizeOf4
 v4:=Tryz.zeroValue4
 t5:=Tryz.underlying5
 a5:=Tryz.isAgg5
 z5:=Tryz.sizeOf5
 v5:=Tryz.zeroValue5
 t9:=Tryz.underlying9
 a9:=Tryz.isAgg9
 z9:=Tryz.sizeOf9
 v9:=Tryz.zeroValue9
 t46:=Tryz.underlying39
 a46:=Tryz.isAgg39
 z46:=Tryz.sizeOf39
 v46:=Tryz.zeroValue39
 t51:=Tryz.underlying221
 a51:=Tryz.isAgg221
 z51:=Tryz.sizeOf221
 v51:=Tryz.zeroValue221
 t146:=Tryz.underlying222
 a146:=Tryz.isAgg222
 z146:=Tryz.sizeOf222
 v146:=Tryz.zeroValue222
 g1:=by kernel_rfl }
open Go.RowKit Go.Lib in
def Tryz.strings_Index_one (s : ByteArray) (c : UInt8) (w : World) :
    Calls Tryz.prog 226 #[.string s,.string ⟨#[c]⟩] w fun e w'=>e = .returned (.int .i64 (Lib.indexByte s.data.toList c))/\w'=w:=Any.strings_Index_one Tryz.aaY s c w
