/- Part. -/
import Derived.Test.YthakfmmgnjpmdaaGreatW23
import Derived.Shelf.Strings.OnBuilder
import Derived.Shelf.Strings.Repeat
import Derived.Shelf.Small.Strs
import Derived.Shelf.Small.Wraps
import Derived.Shelf.LaysM
import Derived.Shelf.Strconv.Itoa3
import Derived.Test.YthakfmmgnjpmdaaGreatProg
import Derived.Shelf.Bits.Mul64
set_option linter.all false
set_option maxHeartbeats 4000000
namespace Go.Proofs.YthakfmmgnjpmdaaGreat
open Go.AM
set_option maxRecDepth 4000
def kE(t:Test)(a b:Int): Bool:=bI a b && (decide (t.kind=1) ||(decide (a≠3) && decide (b≠3)))
def Ef(t:Test)(a b:Int): aF aD 162 [bS t,I a,I b] (.bool (kE t a b)):=by
 have hf:=nU a b;have hS:kE t a b=(bI a b && (decide (t.kind=1) ||(decide (a≠3) && decide (b≠3)))):=rfl;rw[hS];generalize bI a b=f at *;simp only[bS,cH];refine aK Pq ?_;intro Q aq au aA;repeat' first|refine ak ?_|refine aj ?_ ?_<;>intro hw<;>try omega|fail
 all_goals (refine aN ?_ rfl;refine congrArg AV.bool ?_;rw[aW];simp_all)
def BJ(t:Test)(a b:Int): aF aD 140 [bS t,I a,I b] (.bool (kE t a b)):=by
 have hf:=jI a b;have hS:kE t a b=(bI a b && (decide (t.kind=1) ||(decide (a≠3) && decide (b≠3)))):=rfl;rw[hS];generalize bI a b=f at *;simp only[bS,cH];refine aK NC ?_;intro Q aq au aA;repeat' first|refine ak ?_|refine aj ?_ ?_<;>intro hw<;>try omega|fail
 all_goals (refine aN ?_ rfl;refine congrArg AV.bool ?_;rw[aW];simp_all)
def oW(t:Test): List Expr:=if t.kind=6 then [t.a,t.b]else [t.a]
def Jy(t:Test): aF aD 161 [bS t] (cH (oW t)):=by
 have h1:∀ σ : ae,View σ (.aG true EX [.agg [I t.a.op,I t.a.v.kind,I t.a.v.n,.str t.a.v.s,.str t.a.s,.aG false EX (t.a.l.map aJ)]]) (cH [t.a]):=fun σ=>by
  rw[cH,bf,b_,aU];exact View.weak _ _ _ (by simp)
 have h2:∀ σ : ae,View σ (.aG true EX [.agg [I t.a.op,I t.a.v.kind,I t.a.v.n,.str t.a.v.s,.str t.a.s,.aG false EX (t.a.l.map aJ)],.agg [I t.b.op,I t.b.v.kind,I t.b.v.n,.str t.b.v.s,.str t.b.s,.aG false EX (t.b.l.map aJ)]]) (cH [t.a,t.b]):=fun σ=>by
  rw[cH,bf,bf,b_,aU,aU];exact View.weak _ _ _ (by simp)
 unfold oW;by_cases h6:t.kind=6
 ·rw[if_pos h6];generalize cH [t.a,t.b]=E at *;simp only[bS,cH];refine aK Cv ?_;intro Q aq au aA;repeat' first|simp (disch:=omega) only[go_sem,aq,au,aA,h6]|refine ak ?_|refine aj ?_ ?_<;>intro hw<;>try omega|fail
  all_goals exact uS (h2 _)
 ·rw[if_neg h6];generalize cH [t.a]=E at *;simp only[bS,cH];refine aK Cv ?_;intro Q aq au aA;repeat' first|refine ak ?_|refine aj ?_ ?_<;>intro hw<;>try omega|fail
  all_goals exact uS (h1 _)
def ek(cs:List bQ)(x:Expr): Int × Int:=if dw x then fB cs x else(0,2)
def xS(cs:List bQ)(hcs:cs.length<=2 ^ 60)(x:Expr)(hx:iG x)(hz:fE x<=2 ^ 60): aF aD 113 [aJ x,aY cs] (.bJ [I (ek cs x).1,I (ek cs x).2]):=by
 have:=R5 cs hcs x hx hz;unfold ek;cases hr:dw x<;>simpa[hr]using this
def uV(cs:List bQ)(hcs:cs.length<=2 ^ 60)(x:Expr)(hx:iG x)(hz:fE x<=2 ^ 60): aF aD 87 [aJ x,aY cs] (.bJ [I (ek cs x).1,I (ek cs x).2]):=by
 have:=UX cs hcs x hx hz;unfold ek;cases hr:dw x<;>simpa[hr]using this
def xU(cs:List bQ)(kind:Int)(t:Test): Int :=
 if(ek cs t.a).2≠0 then(ek cs t.a).2
 else if t.kind=6 then(if(ek cs t.b).2≠0 then(ek cs t.b).2 else if kE t kind (ek cs t.a).1 && kE t kind (ek cs t.b).1 then 0 else 14)
 else if kE t kind (ek cs t.a).1 then 0 else 14
def qt(cs:List bQ)(kind:Int)(c:Cell): Int:=if gW c then(match c.tests.find? (fun t=>xU cs kind t != 0)with
 | some t=>xU cs kind t
 | none=>0)else 2
def Tl{cs:List bQ}{kind:Int}{c:Cell}{i:Nat}{e:Int}(hr:gW c=true)(hi:i<c.tests.length)(h:∀ k,k<i->(xU cs kind (c.tests.getD k default) != 0)=false)(he:xU cs kind (c.tests.getD i default)=e)(hne:e≠0): qt cs kind c=e:=by
 unfold qt;rw[if_pos hr,sO (p:=fun t=>xU cs kind t != 0) hi h (by rw[he];simpa using hne)];exact he
def P4{cs:List bQ}{kind:Int}{c:Cell}(hr:gW c=true)(h:∀ k,k<c.tests.length->(xU cs kind (c.tests.getD k default) != 0)=false): qt cs kind c=0:=by
 unfold qt;rw[if_pos hr,qg (p:=fun t=>xU cs kind t != 0) h]
def Ge(cs:List bQ)(hcs:cs.length<=2 ^ 60)(kind:Int)(c:Cell)(h:F7 c): aF aD 85 [bY c,I kind,aY cs] (I (qt cs kind c)):=by
 have hR:=zj c h;obtain⟨hl,ht⟩:=h;cases hr:gW c with
 | false =>
   rw[show qt cs kind c=2 from by unfold qt;rw[if_neg (by simp[hr])]];rw[hr]at hR;simp only[bY,gG,aY]at hR ⊢;refine aK zV ?_;intro Q aq au aA;repeat' first|refine ak ?_|refine aj ?_ ?_<;>intro hw<;>try omega|fail
   exact aN rfl rfl
 | true =>
   rw[hr]at hR;simp only[bY,gG,aY]at hR ⊢;refine aK zV ?_;intro Q aq au aA;repeat' first|refine ak ?_|refine aj ?_ ?_<;>intro hw<;>try omega|fail
   with_reducible refine aX [6,7,8,9,10,11,15,16,17,18,19,20,21,22,23,24,25,26,27,28,29,30,31,32,33,34,35,36,37,38,39,40,41,42,43,44,45,46,47,48,49,50,51,52,53,54,55,56,57,58,59,60,61,62,63] (fun q:Nat × List bE=>[(7,I q.1)]) (fun q=> .cells [.bool c.any,.bool c.neg,.aG false ES (c.tests.map bS)]::q.2) (fun q=>q.1<=c.tests.length/\ ∀ k,k<q.1->(xU cs kind (c.tests.getD k default) != 0)=false) (fun q=>c.tests.length-q.1) (0,[]) ?_ ?_ ?_ ?_
   ·simp
   ·rfl
   ·exact at_
   rintro⟨i,τ⟩ r ⟨h1,h2⟩;dsimp only at h1 h2;by_cases hi:i<c.tests.length
   ·have v7:=ht _ (aO hi);have gV:=fun e he hne=>Tl (cs:=cs) (kind:=kind) (e:=e) hr hi h2 he hne;have dD:=fun he=>bx h2 (i:=i) he;obtain⟨t,Lr⟩:∃ t,c.tests.getD i default=t:=⟨_,rfl⟩;rw[Lr]at v7 gV dD;have ka:=uV cs hcs t.a v7.1.1 v7.1.2;have kb:=uV cs hcs t.b v7.2.1 v7.2.2;have fa:=BJ t kind (ek cs t.a).1;have fb:=BJ t kind (ek cs t.b).1;simp only[xU]at gV dD;generalize kE t kind (ek cs t.a).1=va at *;generalize kE t kind (ek cs t.b).1=vb at *;generalize ek cs t.a=ra at *;generalize ek cs t.b=rb at *;rw[aU]at ka kb;simp only[bS,cH,aY]at ka kb fa fb;repeat' first|simp (disch:=omega) only[go_sem,aq,au,aA,Lr]|refine ak ?_|refine aj ?_ ?_<;>intro hw<;>try omega|fail
    all_goals first
     |(refine aN ?_ rfl;refine congrArg I ?_;symm;refine gV _ ?_ ?_<;>(clear gV dD;simp_all;done))
     | (refine ⟨(i + 1, τ ++ [.cells [I t.kind, I t.a.op, I t.a.v.kind, I t.a.v.n, .str t.a.v.s, .str t.a.s, .aG false EX (t.a.l.map aJ), I t.b.op, I t.b.v.kind, I t.b.v.n, .str t.b.v.s, .str t.b.s, .aG false EX (t.b.l.map aJ), .bool t.lo, .bool t.hi]]), ?_, ?_, ?_, bK, at_⟩ <;> (try dsimp only)
        ·exact⟨by omega,dD (by clear gV dD;simp_all)⟩
        ·omega
        all_goals (first|rfl|(simp[go_sem];done)))
     | exact aP
   ·repeat' first|refine ak ?_|refine aj ?_ ?_<;>intro hw<;>try omega|fail
    refine aN ?_ rfl;rw[P4 hr (fun k hk=>h2 k (by omega))]
def U7(cs:List bQ)(hcs:cs.length<=2 ^ 60)(kind:Int)(c:Cell)(h:F7 c): aF aD 111 [bY c,I kind,aY cs] (I (qt cs kind c)):=by
 have hR:=BE c h;obtain⟨hl,ht⟩:=h;cases hr:gW c with
 | false =>
   rw[show qt cs kind c=2 from by unfold qt;rw[if_neg (by simp[hr])]];rw[hr]at hR;simp only[iz,aI,if_false]at hR;simp only[bY,gG,aY]at hR ⊢;refine aK Ct ?_;intro Q aq au aA;repeat' first|refine ak ?_|refine aj ?_ ?_<;>intro hw<;>try omega|fail
   exact aN rfl rfl
 | true =>
   rw[hr]at hR;simp only[iz,if_true]at hR;simp only[bY,gG,aY]at hR ⊢;refine aK Ct ?_;intro Q aq au aA;repeat' first|refine ak ?_|refine aj ?_ ?_<;>intro hw<;>try omega|fail
   with_reducible refine aX [6,9,10,12,13,14,23,24,25,26,27,28,29,30,31,32,33,34,35,36,37,38,39,40,41,42,43,44,45,46,47,48,49,50,51,52,53] (fun q:Nat × List bE=>[(23,I q.1)]) (fun q=> .cells [.bool c.any,.bool c.neg,.aG false ES (c.tests.map bS)]::q.2) (fun q=>q.1<=c.tests.length/\ ∀ k,k<q.1->(xU cs kind (c.tests.getD k default) != 0)=false) (fun q=>c.tests.length-q.1) (0,[]) ?_ ?_ ?_ ?_
   ·simp
   ·rfl
   ·exact at_
   rintro⟨i,τ⟩ r ⟨h1,h2⟩;dsimp only at h1 h2;by_cases hi:i<c.tests.length
   ·have v7:=ht _ (aO hi);have gV:=fun e he hne=>Tl (cs:=cs) (kind:=kind) (e:=e) hr hi h2 he hne;have dD:=fun he=>bx h2 (i:=i) he;obtain⟨t,Lr⟩:∃ t,c.tests.getD i default=t:=⟨_,rfl⟩;rw[Lr]at v7 gV dD;have ka:=xS cs hcs t.a v7.1.1 v7.1.2;have kb:=xS cs hcs t.b v7.2.1 v7.2.2;have fa:=Ef t kind (ek cs t.a).1;have fb:=Ef t kind (ek cs t.b).1;have hp:=Jy t;simp only[xU]at gV dD;generalize kE t kind (ek cs t.a).1=va at *;generalize kE t kind (ek cs t.b).1=vb at *;generalize ek cs t.a=ra at *;generalize ek cs t.b=rb at *;rw[aU]at ka kb;simp only[bS,cH,aY]at ka kb fa fb;by_cases h6:t.kind=6
    ·rw[oW,if_pos h6,cH,bf,bf,b_,aU,aU]at hp;simp only[bS,cH]at hp;simp only[if_pos h6]at gV dD;repeat' first|simp (disch:=omega) only[go_sem,aq,au,aA,Lr]|refine ak ?_|refine aj ?_ ?_<;>intro hw<;>try omega|fail
     with_reducible refine aX [6,10,12,13,14,30,31,32,33,34,35,36,37,38,39,40,41,42,43,44,45,46,47,48,49,50] (fun q:Int × Bool × List bE=>[(30,I q.1),(10,.bool q.2.1)]) (fun q=> .cells [.bool c.any,.bool c.neg,.aG false ES (c.tests.map bS)]::q.2.2) (fun q=>((q.1=0/\q.2.1=true)\/(q.1=1/\ra.2=0/\q.2.1=va)\/(q.1=2/\ra.2=0/\rb.2=0/\q.2.1=(va && vb)))/\q.2.2[τ.length]? = some (.cells [I t.kind,I t.a.op,I t.a.v.kind,I t.a.v.n,.str t.a.v.s,.str t.a.s,.aG false EX (t.a.l.map aJ),I t.b.op,I t.b.v.kind,I t.b.v.n,.str t.b.v.s,.str t.b.s,.aG false EX (t.b.l.map aJ),.bool t.lo,.bool t.hi])) (fun q=>(2-q.1).toNat) (0,true,τ++[.cells [I t.kind,I t.a.op,I t.a.v.kind,I t.a.v.n,.str t.a.v.s,.str t.a.s,.aG false EX (t.a.l.map aJ),I t.b.op,I t.b.v.kind,I t.b.v.n,.str t.b.v.s,.str t.b.s,.aG false EX (t.b.l.map aJ),.bool t.lo,.bool t.hi]]) ?_ ?_ ?_ ?_
     ·exact⟨.inl ⟨rfl,rfl⟩,by simp⟩
     ·rfl
     ·exact at_
     clear hp;rintro⟨j,ok,Jz⟩ r2 ⟨hj,hk⟩;dsimp only at hj hk;have iX:=fun d:bE=>(aV (l₁:=Jz) (l₂:=[d]) (aQ.1 hk).1).trans hk;rcases hj with⟨rfl,rfl⟩|⟨rfl,hra,rfl⟩|⟨rfl,hra,hrb,rfl⟩
     ·repeat' first|simp (disch:=omega) only[go_sem,aq,au,aA,hk,iX,Int.toNat_one]|refine ak ?_|refine aj ?_ ?_<;>intro hw<;>try omega|fail
      all_goals first
       |(refine aN ?_ rfl;refine congrArg I ?_;symm;refine gV _ ?_ ?_<;>(clear gV dD;simp_all;done))
       | (refine ⟨(1, va, Jz ++ [.cells [I t.a.op, I t.a.v.kind, I t.a.v.n, .str t.a.v.s, .str t.a.s, .aG false EX (t.a.l.map aJ)]]), ?_, ?_, ?_, bK, at_⟩ <;> (try dsimp only)
          ·exact⟨.inr (.inl ⟨rfl,by assumption,rfl⟩),iX _⟩
          ·omega
          all_goals (first|rfl|(simp[go_sem];done)))
       | exact aP
     ·cases ok
      ·repeat' first|simp (disch:=omega) only[go_sem,aq,au,aA,hk,iX,Int.toNat_one]|refine ak ?_|refine aj ?_ ?_<;>intro hw<;>try omega|fail
       all_goals first
        |(refine aN ?_ rfl;refine congrArg I ?_;symm;refine gV _ ?_ ?_<;>(clear gV dD;simp_all;done))
        | (refine ⟨(2, false, Jz ++ [.cells [I t.b.op, I t.b.v.kind, I t.b.v.n, .str t.b.v.s, .str t.b.s, .aG false EX (t.b.l.map aJ)]]), ?_, ?_, ?_, bK, at_⟩ <;> (try dsimp only)
           ·exact⟨.inr (.inr ⟨rfl,by assumption,by assumption,rfl⟩),iX _⟩
           ·omega
           all_goals (first|rfl|(simp[go_sem];done)))
        | exact aP
      ·repeat' first|simp (disch:=omega) only[go_sem,aq,au,aA,hk,iX,Int.toNat_one]|refine ak ?_|refine aj ?_ ?_<;>intro hw<;>try omega|fail
       all_goals first
        |(refine aN ?_ rfl;refine congrArg I ?_;symm;refine gV _ ?_ ?_<;>(clear gV dD;simp_all;done))
        | (refine ⟨(2, vb, Jz ++ [.cells [I t.b.op, I t.b.v.kind, I t.b.v.n, .str t.b.v.s, .str t.b.s, .aG false EX (t.b.l.map aJ)]]), ?_, ?_, ?_, bK, at_⟩ <;> (try dsimp only)
           ·exact⟨.inr (.inr ⟨rfl,by assumption,by assumption,rfl⟩),iX _⟩
           ·omega
           all_goals (first|rfl|(simp[go_sem];done)))
        | exact aP
     ·repeat' first|simp (disch:=omega) only[go_sem,aq,au,aA,hk,iX]|refine ak ?_|refine aj ?_ ?_<;>intro hw<;>try omega|fail
      all_goals first
       |(refine aN ?_ rfl;refine congrArg I ?_;symm;refine gV _ ?_ ?_<;>(clear gV dD;simp_all;done))
       | (refine ⟨(i + 1, Jz), ?_, ?_, ?_, bK, at_⟩ <;> (try dsimp only)
          ·exact⟨by omega,dD (by clear gV dD;simp_all)⟩
          ·omega
          all_goals (first|rfl|(simp[go_sem];done)))
       | exact aP
    ·rw[oW,if_neg h6,cH,bf,b_,aU]at hp;simp only[bS,cH]at hp;simp only[if_neg h6]at gV dD;repeat' first|simp (disch:=omega) only[go_sem,aq,au,aA,Lr]|refine ak ?_|refine aj ?_ ?_<;>intro hw<;>try omega|fail
     with_reducible refine aX [6,10,12,13,14,30,31,32,33,34,35,36,37,38,39,40,41,42,43,44,45,46,47,48,49,50] (fun q:Int × Bool × List bE=>[(30,I q.1),(10,.bool q.2.1)]) (fun q=> .cells [.bool c.any,.bool c.neg,.aG false ES (c.tests.map bS)]::q.2.2) (fun q=>((q.1=0/\q.2.1=true)\/(q.1=1/\ra.2=0/\q.2.1=va))/\q.2.2[τ.length]? = some (.cells [I t.kind,I t.a.op,I t.a.v.kind,I t.a.v.n,.str t.a.v.s,.str t.a.s,.aG false EX (t.a.l.map aJ),I t.b.op,I t.b.v.kind,I t.b.v.n,.str t.b.v.s,.str t.b.s,.aG false EX (t.b.l.map aJ),.bool t.lo,.bool t.hi])) (fun q=>(2-q.1).toNat) (0,true,τ++[.cells [I t.kind,I t.a.op,I t.a.v.kind,I t.a.v.n,.str t.a.v.s,.str t.a.s,.aG false EX (t.a.l.map aJ),I t.b.op,I t.b.v.kind,I t.b.v.n,.str t.b.v.s,.str t.b.s,.aG false EX (t.b.l.map aJ),.bool t.lo,.bool t.hi]]) ?_ ?_ ?_ ?_
     ·exact⟨.inl ⟨rfl,rfl⟩,by simp⟩
     ·rfl
     ·exact at_
     clear hp;rintro⟨j,ok,Jz⟩ r2 ⟨hj,hk⟩;dsimp only at hj hk;have iX:=fun d:bE=>(aV (l₁:=Jz) (l₂:=[d]) (aQ.1 hk).1).trans hk;rcases hj with⟨rfl,rfl⟩|⟨rfl,hra,rfl⟩
     ·repeat' first|simp (disch:=omega) only[go_sem,aq,au,aA,hk,iX,Int.toNat_one]|refine ak ?_|refine aj ?_ ?_<;>intro hw<;>try omega|fail
      all_goals first
       |(refine aN ?_ rfl;refine congrArg I ?_;symm;refine gV _ ?_ ?_<;>(clear gV dD;simp_all;done))
       | (refine ⟨(1, va, Jz ++ [.cells [I t.a.op, I t.a.v.kind, I t.a.v.n, .str t.a.v.s, .str t.a.s, .aG false EX (t.a.l.map aJ)]]), ?_, ?_, ?_, bK, at_⟩ <;> (try dsimp only)
          ·exact⟨.inr ⟨rfl,by assumption,rfl⟩,iX _⟩
          ·omega
          all_goals (first|rfl|(simp[go_sem];done)))
       | exact aP
     ·repeat' first|simp (disch:=omega) only[go_sem,aq,au,aA,hk,iX]|refine ak ?_|refine aj ?_ ?_<;>intro hw<;>try omega|fail
      all_goals first
       |(refine aN ?_ rfl;refine congrArg I ?_;symm;refine gV _ ?_ ?_<;>(clear gV dD;simp_all;done))
       | (refine ⟨(i + 1, Jz), ?_, ?_, ?_, bK, at_⟩ <;> (try dsimp only)
          ·exact⟨by omega,dD (by clear gV dD;simp_all)⟩
          ·omega
          all_goals (first|rfl|(simp[go_sem];done)))
       | exact aP
   ·repeat' first|refine ak ?_|refine aj ?_ ?_<;>intro hw<;>try omega|fail
    refine aN ?_ rfl;rw[P4 hr (fun k hk=>h2 k (by omega))]
end Go.Proofs.YthakfmmgnjpmdaaGreat
namespace Go.Proofs
open Go.Shelf
def Tryz.R6: Go.Shelf.Ren:=⟨fun|106=>181|213=>227|265=>267|n=>n,fun|9=>9|3=>3|n=>n,fun|n=>n⟩
def Tryz.abn: Go.Proofs.Lays.n106 Tryz.prog Tryz.R6:= {
 mixed:=by kernel_rfl
 f106:=Tryz.func181.trans (congrArg some (by kernel_rfl))
 f213:=Tryz.func227.trans (congrArg some (by kernel_rfl))
 f265:=Tryz.func267.trans (congrArg some (by kernel_rfl))
 t3:=Tryz.underlying3
 a3:=Tryz.isAgg3
 z3:=Tryz.sizeOf3
 v3:=Tryz.zeroValue3
 t9:=Tryz.underlying9
 a9:=Tryz.isAgg9
 z9:=Tryz.sizeOf9
 v9:=Tryz.zeroValue9 }
open Go.RowKit in
def Tryz.strings_Compare (a b : ByteArray) (w : World) :
    Calls Tryz.prog 181 #[.string a,.string b] w fun e w'=>e = .returned (.int .i64 (Lib.compareBytes a.data.toList b.data.toList))/\w'=w:=Any.strings_Compare Tryz.abn a b w
def Tryz.R7: Go.Shelf.Ren:=⟨fun|212=>280|263=>284|264=>285|n=>n,fun|46=>169|51=>325|146=>326|53=>164|148=>328|n=>n,fun|n=>n⟩
def Tryz.abo: Go.Proofs.Lays.n212 Tryz.prog Tryz.R7:= {
 mixed:=by kernel_rfl
 f212:=Tryz.func280.trans (congrArg some (by kernel_rfl))
 f263:=Tryz.func284.trans (congrArg some (by kernel_rfl))
 f264:=Tryz.func285.trans (congrArg some (by kernel_rfl))
 t46:=Tryz.underlying169
 a46:=Tryz.isAgg169
 z46:=Tryz.sizeOf169
 v46:=Tryz.zeroValue169
 t51:=Tryz.underlying325
 a51:=Tryz.isAgg325
 z51:=Tryz.sizeOf325
 v51:=Tryz.zeroValue325
 t53:=Tryz.underlying164
 a53:=Tryz.isAgg164
 z53:=Tryz.sizeOf164
 v53:=Tryz.zeroValue164
 t146:=Tryz.underlying326
 a146:=Tryz.isAgg326
 z146:=Tryz.sizeOf326
 v146:=Tryz.zeroValue326
 t148:=Tryz.underlying328
 a148:=Tryz.isAgg328
 z148:=Tryz.sizeOf328
 v148:=Tryz.zeroValue328 }
open Go.RowKit Go.Lib in
def Tryz.bits_Mul (x y : Nat) (hx : x < 18446744073709551616) (hy : y < 18446744073709551616) (w : World) :
    Calls Tryz.prog 280 #[.int .u64 x,.int .u64 y] w fun e w'=>e = .returned (.tuple #[.int .u64 ((x*y / 18446744073709551616:Nat):Int),.int .u64 ((x*y % 18446744073709551616:Nat):Int)])/\w'=w:=Any.bits_Mul Tryz.abo x y hx hy w
end Go.Proofs
namespace Go.Proofs.YthakfmmgnjpmdaaGreat
open Go.AM
set_option maxRecDepth 4000
def Au {P : Program} {f : FuncId} {args : List AV} {r : AV} (hf : Has P f)
    (h : ∀ (g : aM) (w : World) (σ : ae) (vs : Array Value), Rel g w σ -> args.length = vs.size -> (∀ i, i < args.length -> VR g w (args.getD i .undef) (vs.getD i Go.undef)) ->
      ∃ v,(∀ g' w',VR g' w' r v)/\Calls P f vs w fun e w'=>e = .returned v/\w'.os=w.os/\w'.tape=w.tape/\w'.output=w.output/\w.heap.size<=w'.heap.size/\ ∀ b,b<w.heap.size->w'.heap[b]? = w.heap[b]?):aF P f args r:=by
 intro σ;refine⟨hf,fun g w vs hR hl hv=>?_⟩;obtain⟨v,h1,h2⟩:=h g w σ vs hR hl hv;refine h2.mono ?_;rintro e w' ⟨rfl,k1,k2,k3,k4,k5⟩;obtain⟨r1,r2⟩:=hR.vi k4 k1 k2 k3 k5;exact⟨.ret r,_,σ,r1,r2,h1 _ _,rfl,rfl⟩
def Xi{vs:Array Value}(h:2=vs.size): vs = #[vs.getD 0 Go.undef,vs.getD 1 Go.undef]:=by
 apply Array.ext
 ·simp[<-h]
 ·intro i h1 h2;simp at h2;obtain rfl|rfl:i=0\/i=1:=by omega
  ·simp[<-h]
  ·simp[<-h]
def zm(t:Test): Prop:=(iG t.a/\fE t.a<=2 ^ 30)/\iG t.b/\fE t.b<=2 ^ 30
def pI(c:Cell): Prop:=c.tests.length<=2 ^ 30/\ ∀ t ∈ c.tests,zm t
def pI.ok{c:Cell}(h:pI c): F7 c:=⟨by have:=h.1;omega,fun t ht=>by
 obtain⟨⟨a,b⟩,c,d⟩:=h.2 t ht;exact⟨⟨a,by omega⟩,c,by omega⟩⟩
def vP (fn : FuncId) (cap : List AV) (hcap : AV.bG cap = true) (p : bQ -> Bool) (l : List bQ) (h : ∀ k, k < l.length -> aF aD fn (bW (l.getD k default) :: cap) (.bool (p (l.getD k default)))) (hl : l.length <= 2 ^ 62) :
    aF aD 107 [aY l,.fn (.func fn) [] cap] (.bool (l.any p)):=by
 refine aK tY ?_ (by simp[AV.cQ,AV.bG,hcap,ie]);intro Q aq au aA;have hc:=q8 fn cap hcap p l h hl;simp only[aY]at hc;repeat' first|refine ak ?_|refine aj ?_ ?_<;>intro hw<;>try omega|fail
 all_goals refine aN ?_ rfl
 all_goals rw[<-uF]
def Fo(v u:aH): (v==u)=((v.kind==u.kind) && (v.n==u.n) && (v.s==u.s)):=by
 obtain⟨a,b,c⟩:=v;obtain⟨d,e,f⟩:=u;rw[aW];simp[and_assoc]
def qu(l:List aH)(v:aH)(hl:l.length<=2 ^ 60): aF aD 156 [aL l,bD v] (I (iT (fun x=>x==v) l)):=by
 simp only[aL,bD];refine aK z_ ?_;intro Q aq au aA;repeat' first|refine ak ?_|refine aj ?_ ?_<;>intro hw<;>try omega|fail
 with_reducible refine aX [4,5,8,9,10,11,12,13,14,15,16,17,18] (fun i:Nat=>[(8,I i)]) (fun _=>[.cells [I v.kind,I v.n,.str v.s]]) (fun i=>i<=l.length/\ ∀ k,k<i->(l.getD k default==v)=false) (fun i=>l.length-i) (0) ?_ ?_ ?_ ?_
 ·simp
 ·rfl
 ·exact at_
 rintro i r ⟨h1,h2⟩;by_cases hi:i<l.length
 ·obtain⟨u,hu⟩:∃ u,l.getD i default=u:=⟨_,rfl⟩;have hb:=Fo u v;repeat' first|simp (disch:=omega) only[go_sem,aq,au,aA,hu]|refine ak ?_|refine aj ?_ ?_<;>intro hw<;>try omega|fail
  ·refine aN ?_ rfl;refine congrArg I ?_;exact(lK (p:=fun x=>x==v) hi h2 (by rw[hu,hb];simp_all)).symm
  ·refine⟨i+1,?_,?_,by first|rfl|(simp[go_sem];done),bK,at_⟩<;>(try dsimp only)
   ·exact⟨by omega,bx h2 (by rw[hu,hb,<-Bool.not_eq_true];simp only[<-Bool.not_eq_true,aC,beq_iff_eq,not_and]at hw ⊢;intro c;exact fun d=>hw ⟨c.1.symm,c.2.symm⟩ d.symm)⟩
   ·omega
 ·repeat' first|refine ak ?_|refine aj ?_ ?_<;>intro hw<;>try omega|fail
  refine aN ?_ rfl;refine congrArg I ?_;exact(kQ (p:=fun x=>x==v) fun k hk=>h2 k (by omega)).symm
def qv(l m:List aH)(hl:l.length<=2 ^ 60)(hm:m.length<=2 ^ 60): aF aD 29 [aL l,aL m] (.bool (fm (fun a b=>a==b) l m)):=by
 simp only[aL];refine aK zR ?_;intro Q aq au aA;repeat' first|refine ak ?_|refine aj ?_ ?_<;>intro hw<;>try omega|fail
 ·refine aN ?_ rfl;rw[qQ (by omega)]
 have xJ:l.length=m.length:=by omega
 with_reducible refine aX [4,5,13,14,15,16,17,18,19,20,21,22,23,24,25] (fun i:Nat=>[(13,I i)]) (fun _=>[]) (fun i=>i<=l.length/\ ∀ k,k<i->(l.getD k default==m.getD k default)=true) (fun i=>l.length-i) (0) ?_ ?_ ?_ ?_
 ·simp
 ·rfl
 ·exact at_
 rintro i r ⟨h1,h2⟩;by_cases hi:i<l.length
 ·have hb:=Fo (l.getD i default) (m.getD i default);repeat' first|refine ak ?_|refine aj ?_ ?_<;>intro hw<;>try omega|fail
  ·refine aN ?_ rfl;rw[tD (p:=fun a b=>a==b) hi (by rw[hb,<-Bool.not_eq_true];simp_all) (by omega)]
  ·refine⟨i+1,?_,?_,by first|rfl|(simp[go_sem];done),bK,at_⟩<;>(try dsimp only)
   ·exact⟨by omega,bx h2 (by rw[hb];simp_all)⟩
   ·omega
 ·repeat' first|refine ak ?_|refine aj ?_ ?_<;>intro hw<;>try omega|fail
  refine aN ?_ rfl;rw[qR (p:=fun a b=>a==b) xJ (fun k hk=>h2 k (by omega))]
def vQ(l m:List aH)(hl:l.length<=2 ^ 60)(hm:m.length<=2 ^ 60): aF aD 27 [aL l,aL m] (.bool (fm (fun a b=>a==b) l m)):=by
 simp only[aL];refine aK G7 ?_;intro Q aq au aA;repeat' first|refine ak ?_|refine aj ?_ ?_<;>intro hw<;>try omega|fail
 ·refine aN ?_ rfl;rw[qQ (by omega)]
 have xJ:l.length=m.length:=by omega
 with_reducible refine aX [4,5,11,12,13,14,15,16,17,18,19,20,21,22,23,24,25] (fun i:Nat=>[(5,I i)]) (fun _=>[]) (fun i=>i<=l.length/\ ∀ k,k<i->(l.getD k default==m.getD k default)=true) (fun i=>l.length-i) (0) ?_ ?_ ?_ ?_
 ·simp
 ·rfl
 ·exact at_
 rintro i r ⟨h1,h2⟩;by_cases hi:i<l.length
 ·have hb:=Fo (l.getD i default) (m.getD i default);repeat' first|refine ak ?_|refine aj ?_ ?_<;>intro hw<;>try omega|fail
  ·refine aN ?_ rfl;rw[tD (p:=fun a b=>a==b) hi (by rw[hb,<-Bool.not_eq_true];simp_all) (by omega)]
  ·refine⟨i+1,?_,?_,by first|rfl|(simp[go_sem];done),bK,at_⟩<;>(try dsimp only)
   ·exact⟨by omega,bx h2 (by rw[hb];simp_all)⟩
   ·omega
 ·repeat' first|refine ak ?_|refine aj ?_ ?_<;>intro hw<;>try omega|fail
  refine aN ?_ rfl;rw[qR (p:=fun a b=>a==b) xJ (fun k hk=>h2 k (by omega))]
def tK(c:bQ)(k:Nat): Bool:=bp (c.order.getD k default) && decide ((c.order.getD k default).kind=c.kind) && decide (iT (fun x=>x==c.order.getD k default) c.order=k)
def kU(c:bQ)(asked:Bool): Bool :=
 if asked then(List.range c.order.length).all (tK c) && decide (1<=c.order.length/\c.order.length<=8)else decide (c.order.length=0)
def yP(c:bQ): Prop:=c.name.length<=2 ^ 62/\c.order.length<=2 ^ 60/\ ∀ v ∈ c.order,(-9223372036854775808<=v.n/\v.n<=9223372036854775807)/\v.s.length<=2 ^ 62
def yQ{c:bQ}{i:Nat}(hi:i<c.order.length)(h:tK c i=false): kU c true=false:=by
 unfold kU;rw[if_pos rfl]
 have:(List.range c.order.length).all (tK c)=false:=by
  rw[List.all_eq_false];exact⟨i,by simpa using hi,by simp[h]⟩
 rw[this];rfl
def JA{c:bQ}(h:∀ k,k<c.order.length->tK c k=true): kU c true=decide (1<=c.order.length/\c.order.length<=8):=by
 unfold kU;rw[if_pos rfl]
 have:(List.range c.order.length).all (tK c)=true:=by
  rw[bg];intro k hk;exact h k (by simpa using hk)
 rw[this];rfl
def P5(c:bQ)(b:Bool)(h:yP c): aF aD 109 [bW c,.bool b] (.bool (kU c b)):=by
 obtain⟨_,hl,hv⟩:=h;simp only[bW,aL];cases b with
 | false =>
   have hS:kU c false=decide (c.order.length=0):=rfl;rw[hS];refine aK yF ?_;intro Q aq au aA;repeat' first|refine ak ?_|refine aj ?_ ?_<;>intro hw<;>try omega|fail
   refine aN ?_ rfl;refine congrArg AV.bool ?_;rw[aW];simp_all
 | true =>
   refine aK yF ?_;intro Q aq au aA;repeat' first|refine ak ?_|refine aj ?_ ?_<;>intro hw<;>try omega|fail
   with_reducible refine aX [4,5,6,16,17,18,19,20,21,22,23,24,25,26,27,28,29,30,31,32,33,34,35,36,37,38,39] (fun q:Nat × List bE=>[(16,I q.1)]) (fun q=> .cells [.str c.name,I c.kind,.aG false EV (c.order.map bD)]::q.2) (fun q=>q.1<=c.order.length/\ ∀ k,k<q.1->tK c k=true) (fun q=>c.order.length-q.1) (0,[]) ?_ ?_ ?_ ?_
   ·simp
   ·rfl
   ·exact at_
   rintro⟨i,τ⟩ r ⟨h1,h2⟩;dsimp only at h1 h2;by_cases hi:i<c.order.length
   ·have Tm:=hv _ (aO hi);have hO:tK c i=(bp (c.order.getD i default) && decide ((c.order.getD i default).kind=c.kind) && decide (iT (fun x=>x==c.order.getD i default) c.order=i)):=rfl;obtain⟨v,Eg⟩:∃ v,c.order.getD i default=v:=⟨_,rfl⟩;rw[Eg]at Tm hO;have c1:=jT v.kind v.n v.s Tm.1.1 Tm.1.2;have c2:=qu c.order v hl;rw[show (⟨v.kind,v.n,v.s⟩:aH)=v from rfl]at c1;simp only[aL,bD]at c2;generalize iT (fun x=>x==v) c.order=ix at *;cases CK:bp v;all_goals (rw[CK]at c1 hO;simp only[iz,aI,if_false,if_true]at c1)
    ·repeat' first|simp (disch:=omega) only[go_sem,aq,au,aA,Eg]|refine ak ?_|refine aj ?_ ?_<;>intro hw<;>try omega|fail
     all_goals (refine aN ?_ rfl;rw[yQ hi (by rw[hO];rfl)])
    ·repeat' first|simp (disch:=omega) only[go_sem,aq,au,aA,Eg]|refine ak ?_|refine aj ?_ ?_<;>intro hw<;>try omega|fail
     all_goals first
      |(refine aN ?_ rfl;rw[yQ hi (by rw[hO];simp_all;done)])
      | (refine ⟨(i + 1, τ ++ [.cells [I v.kind, I v.n, .str v.s]]), ?_, ?_, by first | rfl | (simp [go_sem]; done), bK, at_⟩ <;> (try dsimp only)
         ·exact⟨by omega,bx h2 (by rw[hO];simp_all)⟩
         ·omega)
   ·repeat' first|refine ak ?_|refine aj ?_ ?_<;>intro hw<;>try omega|fail
    all_goals (refine aN ?_ rfl;rw[JA (fun k hk=>h2 k (by omega))];refine congrArg AV.bool ?_;rw[aW];simp_all)
    all_goals (try omega)
def abp{α : Type}[Inhabited α]{p : α->Bool}{l:List α}: ∀ {k:Nat},k<l.length->p (l.getD k default)=true->iT p l<=k:=by
 intro k
 induction k using Nat.strongRecOn with
 | _ k ih =>
   intro hk h;by_cases ha:∀ j,j<k->p (l.getD j default)=false
   ·rw[lK hk ha h];exact Int.le_refl _
   ·simp only[Classical.not_forall]at ha;obtain⟨j,hj,hn⟩:=ha;have:=ih j hj (by omega) (by simpa using hn);omega
def Zr{c:bQ}{k i:Nat}(hk:k<i)(hi:i<c.order.length)(h:(c.order.getD k default==c.order.getD i default)=true): tK c i=false:=by
 have:=abp (p:=fun x=>x==c.order.getD i default) (l:=c.order) (k:=k) (by omega) h;unfold tK;rw[Bool.and_eq_false_iff];exact .inr (decide_eq_false (by omega))
def abq{c:bQ}{i:Nat}(hi:i<c.order.length)(h:∀ k,k<i->(c.order.getD k default==c.order.getD i default)=false)(hr:bp (c.order.getD i default)=true)(hk:(c.order.getD i default).kind=c.kind): tK c i=true:=by
 have:=lK (p:=fun x=>x==c.order.getD i default) (l:=c.order) hi h (by simp);unfold tK;rw[this,hr,hk];simp
def abr{c:bQ}{i:Nat}(h:bp (c.order.getD i default)=false\/(c.order.getD i default).kind≠c.kind): tK c i=false:=by
 unfold tK;rcases h with h|h
 ·rw[h];rfl
 ·rw[decide_eq_false h,fc];rfl
def R8(c:bQ)(b:Bool)(h:yP c): aF aD 134 [bW c,.bool b] (.bool (kU c b)):=by
 obtain⟨_,hl,hv⟩:=h;simp only[bW,aL];cases b with
 | false =>
   have hS:kU c false=decide (c.order.length=0):=rfl;rw[hS];refine aK zZ ?_;intro Q aq au aA;repeat' first|refine ak ?_|refine aj ?_ ?_<;>intro hw<;>try omega|fail
   refine aN ?_ rfl;refine congrArg AV.bool ?_;rw[aW];simp_all
 | true =>
   refine aK zZ ?_;intro Q aq au aA;repeat' first|refine ak ?_|refine aj ?_ ?_<;>intro hw<;>try omega|fail
   with_reducible refine aX [4,5,6,13,14,15,16,17,18,19,20,21,22,23,24,25,26,27,28,29,30,31,32,33,34,35,36,37,38,39,40,41,42,43,44,45,46,47,48,49,50,51,52,53] (fun i:Nat=>[(5,I i)]) (fun _=>[.cells [.str c.name,I c.kind,.aG false EV (c.order.map bD)]]) (fun i=>i<=c.order.length/\ ∀ k,k<i->tK c k=true) (fun i=>c.order.length-i) (0) ?_ ?_ ?_ ?_
   ·simp
   ·rfl
   ·exact at_
   rintro i r ⟨h1,h2⟩;by_cases hi:i<c.order.length
   ·have Tm:=hv _ (aO hi);have hno:=fun h=>yQ hi (abr (c:=c) (i:=i) h);have ade:=fun k hk h=>yQ hi (Zr (c:=c) (k:=k) (i:=i) hk hi h);have hok:=fun h hr hk=>bx h2 (abq (c:=c) hi h hr hk);obtain⟨v,Eg⟩:∃ v,c.order.getD i default=v:=⟨_,rfl⟩;rw[Eg]at Tm hno ade hok;have c1:=pB v.kind v.n v.s Tm.2;rw[show (⟨v.kind,v.n,v.s⟩:aH)=v from rfl]at c1;cases CK:bp v;all_goals rw[CK]at c1
    ·repeat' first|simp (disch:=omega) only[go_sem,aq,au,aA,Eg]|refine ak ?_|refine aj ?_ ?_<;>intro hw<;>try omega|fail
     all_goals (refine aN ?_ rfl;rw[hno (.inl CK)])
    ·repeat' first|simp (disch:=omega) only[go_sem,aq,au,aA,Eg]|refine ak ?_|refine aj ?_ ?_<;>intro hw<;>try omega|fail
     ·refine aN ?_ rfl;rw[hno (.inr (by simp_all))]
     with_reducible refine aX [4,6,38,39,40,41,42,43,44,45,46,47,48,49,50,51,52,53] (fun k:Nat=>[(6,I k)]) (fun _=>[.cells [.str c.name,I c.kind,.aG false EV (c.order.map bD)]]) (fun k=>k<=i/\ ∀ j,j<k->(c.order.getD j default==v)=false) (fun k=>i-k) (0) ?_ ?_ ?_ ?_
     ·simp
     ·rfl
     ·exact at_
     rintro k r2 ⟨g1,g2⟩;by_cases hk:k<i
     ·have hdk:=ade k hk;have Wx:=bx (i:=k) g2;obtain⟨u,adf⟩:∃ u,c.order.getD k default=u:=⟨_,rfl⟩;rw[adf]at hdk Wx;have hb:=Fo u v;repeat' first|simp (disch:=omega) only[go_sem,aq,au,aA,Eg,adf]|refine ak ?_|refine aj ?_ ?_<;>intro hw<;>try omega|fail
      ·refine aN ?_ rfl;rw[hdk (by rw[hb];simp_all)]
      ·refine⟨k+1,?_,?_,by first|rfl|(simp[go_sem];done),bK,at_⟩<;>(try dsimp only)
       ·exact⟨by omega,Wx (by rw[hb,<-Bool.not_eq_true];simp_all)⟩
       ·omega
     ·repeat' first|refine ak ?_|refine aj ?_ ?_<;>intro hw<;>try omega|fail
      refine⟨i+1,?_,?_,by first|rfl|(simp[go_sem];done),bK,at_⟩<;>(try dsimp only)
      ·exact⟨by omega,hok (fun j hj=>g2 j (by omega)) CK (by simp_all)⟩
      ·omega
   ·repeat' first|refine ak ?_|refine aj ?_ ?_<;>intro hw<;>try omega|fail
    all_goals (refine aN ?_ rfl;rw[JA (fun k hk=>h2 k (by omega))];refine congrArg AV.bool ?_;rw[aW];simp_all)
    all_goals (try omega)
def kF(l:List bQ)(b:Bool): Int:=if jZ l≠0 then jZ l else if l.length=0\/(l.any fun c=> !(kU c b))=true then 17 else 0
def HA(c:bQ)(b:Bool)(h:yP c): aF aD 108 [bW c,.eL E1 (.bool b) 0] (.bool (!(kU c b))):=by
 have h1:=P5 c b h;simp only[bW,aL]at h1 ⊢;generalize kU c b=o at *;refine aK CV ?_;intro Q aq au aA;repeat' first|refine ak ?_|refine aj ?_ ?_<;>intro hw<;>try omega|fail
 all_goals exact aN rfl rfl
def Av(l:List bQ)(b:Bool)(hl:l.length<=2 ^ 60)(h:∀ c ∈ l,yP c): aF aD 67 [aY l,.bool b] (I (kF l b)):=by
 have h1:=Ln l (fun k hk=>(h _ (aO hk)).1);have h2:=vP 108 [.eL E1 (.bool b) 0] rfl (fun c=> !(kU c b)) l (fun k hk=>HA _ b (h _ (aO hk))) (by omega);have hS:kF l b=if jZ l≠0 then jZ l else if l.length=0\/(l.any fun c=> !(kU c b))=true then 17 else 0:=rfl
 rw[hS];clear hS;simp only[aY]at h1 h2 ⊢;generalize (l.any fun c=> !(kU c b))=an at *;generalize jZ l=cs at *;refine aK FI ?_;intro Q aq au aA;repeat' first|refine ak ?_|refine Cx h2 ?_|refine aj ?_ ?_<;>intro hw<;>try omega|fail
 all_goals (refine aN ?_ rfl;refine congrArg I ?_;simp_all[<-List.length_eq_zero_iff])
 all_goals (try omega)
def CL(l:List bQ)(b:Bool)(hl:l.length<=2 ^ 60)(h:∀ c ∈ l,yP c): aF aD 82 [aY l,.bool b] (I (kF l b)):=by
 have h1:=N2 l (fun k hk=>(h _ (aO hk)).1);have hS:kF l b=if jZ l≠0 then jZ l else if l.length=0\/(l.any fun c=> !(kU c b))=true then 17 else 0:=rfl
 rw[hS];clear hS;simp only[aY]at h1 ⊢;generalize jZ l=cs at *;refine aK Hf ?_;intro Q aq au aA;repeat' first|refine ak ?_|refine aj ?_ ?_<;>intro hw<;>try omega|fail
 ·refine aN ?_ rfl;refine congrArg I ?_;rw[if_pos (by omega)]
 have hcs:¬ cs≠0:=by omega
 rw[if_neg hcs]at aq;with_reducible refine aX [4,6,12,13,14,15,16,17,18,19,20,21,22,23,24] (fun i:Nat=>[(6,I i)]) (fun _=>[]) (fun i=>i<=l.length/\ ∀ k,k<i->(!(kU (l.getD k default) b))=false) (fun i=>l.length-i) (0) ?_ ?_ ?_ ?_
 ·simp
 ·rfl
 ·exact at_
 rintro i r ⟨h1,h2⟩;by_cases hi:i<l.length
 ·have h3:=R8 _ b (h _ (aO hi));simp only[bW,aL]at h3;repeat' first|refine ak ?_|refine aj ?_ ?_<;>intro hw<;>try omega|fail
  ·refine aN ?_ rfl;refine congrArg I ?_;rw[D4 (p:=fun c=> !(kU c b)) hi (by simpa using hw)];simp
  ·refine⟨i+1,?_,?_,by first|rfl|(simp[go_sem];done),bK,at_⟩<;>(try dsimp only)
   ·exact⟨by omega,bx h2 (by simpa using hw)⟩
   ·omega
 ·repeat' first|refine ak ?_|refine aj ?_ ?_<;>intro hw<;>try omega|fail
  all_goals (refine aN ?_ rfl;rw[Ag (p:=fun c=> !(kU c b)) (fun k hk=>h2 k (by omega))];refine congrArg I ?_;simp_all[<-List.length_eq_zero_iff])
  all_goals (try omega)
