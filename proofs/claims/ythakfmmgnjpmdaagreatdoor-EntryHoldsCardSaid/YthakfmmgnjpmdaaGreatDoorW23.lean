/- Part. -/
import Derived.Test.YthakfmmgnjpmdaaGreatDoorW22
import Derived.Shelf.Strings.OnBuilder
import Derived.Shelf.Strings.Repeat
import Derived.Shelf.Small.Strs
import Derived.Shelf.Small.Wraps
import Derived.Shelf.LaysM
import Derived.Shelf.Strconv.Itoa3
import Derived.Test.YthakfmmgnjpmdaaGreatDoorProg
import Derived.Shelf.Bits.Mul64
set_option linter.all false
set_option maxHeartbeats 4000000
namespace Go.Proofs.YthakfmmgnjpmdaaGreatDoor
open Go.AM
set_option maxRecDepth 4000
def Vf(cs:List cN)(hcs:cs.length<=2 ^ 60)(kind:Int)(c:Cell)(h:Mf c): aM aH 107 [dG c,I kind,bV cs] (I (yq cs kind c)):=by
 have hR:=xu c h;obtain⟨hl,ht⟩:=h;cases hr:gP c with
 | false =>
   rw[show yq cs kind c=2 from by unfold yq;rw[if_neg (by simp[hr])]];rw[hr]at hR;simp only[ie,aG,if_false]at hR;simp only[dG,jj,bV]at hR ⊢;refine aR CJ ?_;intro Q aB aC aD;repeat' first|refine au ?_|refine aq ?_ ?_<;>intro hw<;>try omega|fail
   exact aU rfl rfl
 | true =>
   rw[hr]at hR;simp only[ie,if_true]at hR;simp only[dG,jj,bV]at hR ⊢;refine aR CJ ?_;intro Q aB aC aD;repeat' first|refine au ?_|refine aq ?_ ?_<;>intro hw<;>try omega|fail
   with_reducible refine bE [6,9,10,12,13,14,23,24,25,26,27,28,29,30,31,32,33,34,35,36,37,38,39,40,41,42,43,44,45,46,47,48,49,50,51,52,53] (fun q:Nat × List bj=>[(23,I q.1)]) (fun q=> .cells [.bool c.any,.bool c.neg,.aN false ES (c.tests.map dA)]::q.2) (fun q=>q.1<=c.tests.length/\ ∀ k,k<q.1->(B5 cs kind (c.tests.getD k default) != 0)=false) (fun q=>c.tests.length-q.1) (0,[]) ?_ ?_ ?_ ?_
   ·simp
   ·rfl
   ·exact at_
   rintro⟨i,τ⟩ r ⟨h1,h2⟩;dsimp only at h1 h2;by_cases hi:i<c.tests.length
   ·have y3:=ht _ (bn hi);have bR:=fun e he hne=>adb (cs:=cs) (kind:=kind) (e:=e) hr hi h2 he hne;have dV:=fun he=>bQ h2 (i:=i) he;obtain⟨t,Ht⟩:∃ t,c.tests.getD i default=t:=⟨_,rfl⟩;rw[Ht]at y3 bR dV;have ka:=yp cs hcs t.a y3.1.1 y3.1.2;have kb:=yp cs hcs t.b y3.2.1 y3.2.2;have fa:=Eb t kind (jk cs t.a).1;have fb:=Eb t kind (jk cs t.b).1;have hp:=Jd t;simp only[B5]at bR dV;generalize n6 t kind (jk cs t.a).1=va at *;generalize n6 t kind (jk cs t.b).1=vb at *;generalize jk cs t.a=ra at *;generalize jk cs t.b=rb at *;rw[bq]at ka kb;simp only[dA,dQ,bV]at ka kb fa fb;by_cases h6:t.kind=6
    ·rw[po,if_pos h6,dQ,bf,bf,cJ,bq,bq]at hp;simp only[dA,dQ]at hp;simp only[if_pos h6]at bR dV;repeat' first|simp (disch:=omega) only[go_sem,aB,aC,aD,Ht]|refine au ?_|refine aq ?_ ?_<;>intro hw<;>try omega|fail
     with_reducible refine bE [6,10,12,13,14,30,31,32,33,34,35,36,37,38,39,40,41,42,43,44,45,46,47,48,49,50] (fun q:Int × Bool × List bj=>[(30,I q.1),(10,.bool q.2.1)]) (fun q=> .cells [.bool c.any,.bool c.neg,.aN false ES (c.tests.map dA)]::q.2.2) (fun q=>((q.1=0/\q.2.1=true)\/(q.1=1/\ra.2=0/\q.2.1=va)\/(q.1=2/\ra.2=0/\rb.2=0/\q.2.1=(va && vb)))/\q.2.2[τ.length]? = some (.cells [I t.kind,I t.a.op,I t.a.v.kind,I t.a.v.n,.str t.a.v.s,.str t.a.s,.aN false EX (t.a.l.map aT),I t.b.op,I t.b.v.kind,I t.b.v.n,.str t.b.v.s,.str t.b.s,.aN false EX (t.b.l.map aT),.bool t.lo,.bool t.hi])) (fun q=>(2-q.1).toNat) (0,true,τ++[.cells [I t.kind,I t.a.op,I t.a.v.kind,I t.a.v.n,.str t.a.v.s,.str t.a.s,.aN false EX (t.a.l.map aT),I t.b.op,I t.b.v.kind,I t.b.v.n,.str t.b.v.s,.str t.b.s,.aN false EX (t.b.l.map aT),.bool t.lo,.bool t.hi]]) ?_ ?_ ?_ ?_
     ·exact⟨.inl ⟨rfl,rfl⟩,by simp⟩
     ·rfl
     ·exact at_
     clear hp;rintro⟨j,ok,Je⟩ r2 ⟨hj,hk⟩;dsimp only at hj hk;have kR:=fun d:bj=>(aJ (l₁:=Je) (l₂:=[d]) (aK.1 hk).1).trans hk;rcases hj with⟨rfl,rfl⟩|⟨rfl,hra,rfl⟩|⟨rfl,hra,hrb,rfl⟩
     ·repeat' first|simp (disch:=omega) only[go_sem,aB,aC,aD,hk,kR,Int.toNat_one]|refine au ?_|refine aq ?_ ?_<;>intro hw<;>try omega|fail
      all_goals first
       |(refine aU ?_ rfl;refine congrArg I ?_;symm;refine bR _ ?_ ?_<;>(clear bR dV;simp_all;done))
       | (refine ⟨(1, va, Je ++ [.cells [I t.a.op, I t.a.v.kind, I t.a.v.n, .str t.a.v.s, .str t.a.s, .aN false EX (t.a.l.map aT)]]), ?_, ?_, ?_, cZ, at_⟩ <;> (try dsimp only)
          ·exact⟨.inr (.inl ⟨rfl,by assumption,rfl⟩),kR _⟩
          ·omega
          all_goals (first|rfl|(simp[go_sem];done)))
       | exact a_
     ·cases ok
      ·repeat' first|simp (disch:=omega) only[go_sem,aB,aC,aD,hk,kR,Int.toNat_one]|refine au ?_|refine aq ?_ ?_<;>intro hw<;>try omega|fail
       all_goals first
        |(refine aU ?_ rfl;refine congrArg I ?_;symm;refine bR _ ?_ ?_<;>(clear bR dV;simp_all;done))
        | (refine ⟨(2, false, Je ++ [.cells [I t.b.op, I t.b.v.kind, I t.b.v.n, .str t.b.v.s, .str t.b.s, .aN false EX (t.b.l.map aT)]]), ?_, ?_, ?_, cZ, at_⟩ <;> (try dsimp only)
           ·exact⟨.inr (.inr ⟨rfl,by assumption,by assumption,rfl⟩),kR _⟩
           ·omega
           all_goals (first|rfl|(simp[go_sem];done)))
        | exact a_
      ·repeat' first|simp (disch:=omega) only[go_sem,aB,aC,aD,hk,kR,Int.toNat_one]|refine au ?_|refine aq ?_ ?_<;>intro hw<;>try omega|fail
       all_goals first
        |(refine aU ?_ rfl;refine congrArg I ?_;symm;refine bR _ ?_ ?_<;>(clear bR dV;simp_all;done))
        | (refine ⟨(2, vb, Je ++ [.cells [I t.b.op, I t.b.v.kind, I t.b.v.n, .str t.b.v.s, .str t.b.s, .aN false EX (t.b.l.map aT)]]), ?_, ?_, ?_, cZ, at_⟩ <;> (try dsimp only)
           ·exact⟨.inr (.inr ⟨rfl,by assumption,by assumption,rfl⟩),kR _⟩
           ·omega
           all_goals (first|rfl|(simp[go_sem];done)))
        | exact a_
     ·repeat' first|simp (disch:=omega) only[go_sem,aB,aC,aD,hk,kR]|refine au ?_|refine aq ?_ ?_<;>intro hw<;>try omega|fail
      all_goals first
       |(refine aU ?_ rfl;refine congrArg I ?_;symm;refine bR _ ?_ ?_<;>(clear bR dV;simp_all;done))
       | (refine ⟨(i + 1, Je), ?_, ?_, ?_, cZ, at_⟩ <;> (try dsimp only)
          ·exact⟨by omega,dV (by clear bR dV;simp_all)⟩
          ·omega
          all_goals (first|rfl|(simp[go_sem];done)))
       | exact a_
    ·rw[po,if_neg h6,dQ,bf,cJ,bq]at hp;simp only[dA,dQ]at hp;simp only[if_neg h6]at bR dV;repeat' first|simp (disch:=omega) only[go_sem,aB,aC,aD,Ht]|refine au ?_|refine aq ?_ ?_<;>intro hw<;>try omega|fail
     with_reducible refine bE [6,10,12,13,14,30,31,32,33,34,35,36,37,38,39,40,41,42,43,44,45,46,47,48,49,50] (fun q:Int × Bool × List bj=>[(30,I q.1),(10,.bool q.2.1)]) (fun q=> .cells [.bool c.any,.bool c.neg,.aN false ES (c.tests.map dA)]::q.2.2) (fun q=>((q.1=0/\q.2.1=true)\/(q.1=1/\ra.2=0/\q.2.1=va))/\q.2.2[τ.length]? = some (.cells [I t.kind,I t.a.op,I t.a.v.kind,I t.a.v.n,.str t.a.v.s,.str t.a.s,.aN false EX (t.a.l.map aT),I t.b.op,I t.b.v.kind,I t.b.v.n,.str t.b.v.s,.str t.b.s,.aN false EX (t.b.l.map aT),.bool t.lo,.bool t.hi])) (fun q=>(2-q.1).toNat) (0,true,τ++[.cells [I t.kind,I t.a.op,I t.a.v.kind,I t.a.v.n,.str t.a.v.s,.str t.a.s,.aN false EX (t.a.l.map aT),I t.b.op,I t.b.v.kind,I t.b.v.n,.str t.b.v.s,.str t.b.s,.aN false EX (t.b.l.map aT),.bool t.lo,.bool t.hi]]) ?_ ?_ ?_ ?_
     ·exact⟨.inl ⟨rfl,rfl⟩,by simp⟩
     ·rfl
     ·exact at_
     clear hp;rintro⟨j,ok,Je⟩ r2 ⟨hj,hk⟩;dsimp only at hj hk;have kR:=fun d:bj=>(aJ (l₁:=Je) (l₂:=[d]) (aK.1 hk).1).trans hk;rcases hj with⟨rfl,rfl⟩|⟨rfl,hra,rfl⟩
     ·repeat' first|simp (disch:=omega) only[go_sem,aB,aC,aD,hk,kR,Int.toNat_one]|refine au ?_|refine aq ?_ ?_<;>intro hw<;>try omega|fail
      all_goals first
       |(refine aU ?_ rfl;refine congrArg I ?_;symm;refine bR _ ?_ ?_<;>(clear bR dV;simp_all;done))
       | (refine ⟨(1, va, Je ++ [.cells [I t.a.op, I t.a.v.kind, I t.a.v.n, .str t.a.v.s, .str t.a.s, .aN false EX (t.a.l.map aT)]]), ?_, ?_, ?_, cZ, at_⟩ <;> (try dsimp only)
          ·exact⟨.inr ⟨rfl,by assumption,rfl⟩,kR _⟩
          ·omega
          all_goals (first|rfl|(simp[go_sem];done)))
       | exact a_
     ·repeat' first|simp (disch:=omega) only[go_sem,aB,aC,aD,hk,kR]|refine au ?_|refine aq ?_ ?_<;>intro hw<;>try omega|fail
      all_goals first
       |(refine aU ?_ rfl;refine congrArg I ?_;symm;refine bR _ ?_ ?_<;>(clear bR dV;simp_all;done))
       | (refine ⟨(i + 1, Je), ?_, ?_, ?_, cZ, at_⟩ <;> (try dsimp only)
          ·exact⟨by omega,dV (by clear bR dV;simp_all)⟩
          ·omega
          all_goals (first|rfl|(simp[go_sem];done)))
       | exact a_
   ·repeat' first|refine au ?_|refine aq ?_ ?_<;>intro hw<;>try omega|fail
    refine aU ?_ rfl;rw[aay hr (fun k hk=>h2 k (by omega))]
end Go.Proofs.YthakfmmgnjpmdaaGreatDoor
namespace Go.Proofs
open Go.Shelf
def Tryz.Ge: Go.Shelf.Ren:=⟨fun|156=>54|165=>90|166=>91|169=>59|240=>133|241=>134|276=>169|277=>170|n=>n,fun|31=>51|9=>9|3=>3|4=>4|0=>0|20=>20|72=>127|76=>168|70=>124|37=>125|75=>167|127=>177|164=>253|5=>5|80=>131|n=>n,fun|n=>n⟩
def Tryz.Td: Go.Proofs.Lays.n156 Tryz.prog Tryz.Ge:= {
 mixed:=by kernel_rfl
 f156:=Tryz.func54.trans (congrArg some (by kernel_rfl))
 f165:=Tryz.func90.trans (congrArg some (by kernel_rfl))
 f166:=Tryz.func91.trans (congrArg some (by kernel_rfl))
 f169:=Tryz.func59.trans (congrArg some (by kernel_rfl))
 f240:=Tryz.func133.trans (congrArg some (by kernel_rfl))
 f241:=Tryz.func134.trans (congrArg some (by kernel_rfl))
 f276:=Tryz.func169.trans (congrArg some (by kernel_rfl))
 f277:=Tryz.func170.trans (congrArg some (by kernel_rfl))
 t0:=Tryz.underlying0
 a0:=Tryz.isAgg0
 z0:=Tryz.sizeOf0
 v0:=Tryz.zeroValue0
 t3:=Tryz.underlying3
 a3:=Tryz.isAgg3
 z3:=Tryz.sizeOf3
 v3:=Tryz.zeroValue3
 t4:=Tryz.underlying4
 a4:=Tryz.isAgg4
 z4:=Tryz.sizeOf4
 v4:=Tryz.zeroValue4
 t9:=Tryz.underlying9
 a9:=Tryz.isAgg9
 z9:=Tryz.sizeOf9
 v9:=Tryz.zeroValue9
 t20:=Tryz.underlying20
 a20:=Tryz.isAgg20
 z20:=Tryz.sizeOf20
 v20:=Tryz.zeroValue20
 t31:=Tryz.underlying51
 a31:=Tryz.isAgg51
 z31:=Tryz.sizeOf51
 v31:=Tryz.zeroValue51
 t37:=Tryz.underlying125
 a37:=Tryz.isAgg125
 z37:=Tryz.sizeOf125
 v37:=Tryz.zeroValue125
 t70:=Tryz.underlying124
 a70:=Tryz.isAgg124
 z70:=Tryz.sizeOf124
 v70:=Tryz.zeroValue124
 t72:=Tryz.underlying127
 a72:=Tryz.isAgg127
 z72:=Tryz.sizeOf127
 v72:=Tryz.zeroValue127
 t75:=Tryz.underlying167
 a75:=Tryz.isAgg167
 z75:=Tryz.sizeOf167
 v75:=Tryz.zeroValue167
 t76:=Tryz.underlying168
 a76:=Tryz.isAgg168
 z76:=Tryz.sizeOf168
 v76:=Tryz.zeroValue168
 t127:=Tryz.underlying177
 a127:=Tryz.isAgg177
 z127:=Tryz.sizeOf177
 v127:=Tryz.zeroValue177
 t164:=Tryz.underlying253
 a164:=Tryz.isAgg253
 z164:=Tryz.sizeOf253
 v164:=Tryz.zeroValue253 }
def Tryz.wS: Builder.Extra Tryz.prog Tryz.Ge:= {
 sizeBuilder:=by kernel_rfl
 liesBuilder:=by kernel_rfl
 t5:=Tryz.underlying5
 a5:=Tryz.isAgg5
 z5:=Tryz.sizeOf5
 v5:=Tryz.zeroValue5
 infoByte:=by kernel_rfl
 cellsByte:=by kernel_rfl
 sizeByte:=by kernel_rfl
 neB5:=by decide }
open Go.RowKit in
def Tryz.strings_Join_none (a : Option Addr) (c : Nat) (sep : ByteArray) (w : World) :
    Calls Tryz.prog 54 #[.slice a 0 c,.string sep] w fun e w'=>e = .returned (.string ⟨#[]⟩)/\w'=w:=Any.strings_Join_none Tryz.Td Tryz.wS a c sep w
open Go.RowKit in
def Tryz.strings_Join (bk o c : Nat) (xs : List ByteArray) (sep : ByteArray) (w : World) (hcells : ∀ (j : Nat) x, xs[j]? = some x -> w.cell? ⟨bk, o + j, none⟩ = some (.string x)) (hbk : bk < w.heap.size) (hN : xs.length <= 140737488355328) (hcap : xs.length <= c) (hlen : (Lib.join (xs.map (·.data.toList)) sep.data.toList).length <= 140737488355328) :
    Calls Tryz.prog 54 #[.slice (some ⟨bk,o,none⟩) xs.length c,.string sep] w fun e w'=>e = .returned (.string ⟨(Lib.join (xs.map (·.data.toList)) sep.data.toList).toArray⟩)/\Below w.heap.size w w':=Any.strings_Join Tryz.Td Tryz.wS bk o c xs sep w hcells hbk hN hcap hlen
def Tryz.RN: Go.Shelf.Ren:=⟨fun|106=>163|213=>190|265=>210|n=>n,fun|9=>9|3=>3|n=>n,fun|n=>n⟩
def Tryz.ade: Go.Proofs.Lays.n106 Tryz.prog Tryz.RN:= {
 mixed:=by kernel_rfl
 f106:=Tryz.func163.trans (congrArg some (by kernel_rfl))
 f213:=Tryz.func190.trans (congrArg some (by kernel_rfl))
 f265:=Tryz.func210.trans (congrArg some (by kernel_rfl))
 t3:=Tryz.underlying3
 a3:=Tryz.isAgg3
 z3:=Tryz.sizeOf3
 v3:=Tryz.zeroValue3
 t9:=Tryz.underlying9
 a9:=Tryz.isAgg9
 z9:=Tryz.sizeOf9
 v9:=Tryz.zeroValue9 }
open Go.RowKit in
def Tryz.strings_Compare (a b : ByteArray) (w : World) :
    Calls Tryz.prog 163 #[.string a,.string b] w fun e w'=>e = .returned (.int .i64 (Lib.compareBytes a.data.toList b.data.toList))/\w'=w:=Any.strings_Compare Tryz.ade a b w
def Tryz.RO: Go.Shelf.Ren:=⟨fun|121=>138|214=>173|n=>n,fun|4=>4|9=>9|n=>n,fun|n=>n⟩
def Tryz.adf: Go.Proofs.Lays.n121 Tryz.prog Tryz.RO:= {
 mixed:=by kernel_rfl
 f121:=Tryz.func138.trans (congrArg some (by kernel_rfl))
 f214:=Tryz.func173.trans (congrArg some (by kernel_rfl))
 t4:=Tryz.underlying4
 a4:=Tryz.isAgg4
 z4:=Tryz.sizeOf4
 v4:=Tryz.zeroValue4
 t9:=Tryz.underlying9
 a9:=Tryz.isAgg9
 z9:=Tryz.sizeOf9
 v9:=Tryz.zeroValue9 }
open Go.RowKit in
def Tryz.strconv_FormatBool (b : Bool) (w : World) :
    Calls Tryz.prog 138 #[.bool b] w fun e w'=>e = .returned (.string ⟨(Lib.formatBool b).toArray⟩)/\w'=w:=Any.strconv_FormatBool Tryz.adf b w
def Tryz.PJ: Go.Shelf.Ren:=⟨fun|171=>136|243=>171|246=>192|283=>211|284=>212|285=>213|286=>214|129=>228|317=>227|318=>229|319=>230|320=>231|337=>235|338=>236|n=>n,fun|3=>3|9=>9|2=>2|4=>4|171=>289|0=>0|53=>152|37=>125|5=>5|173=>291|212=>307|51=>293|20=>20|213=>308|46=>155|232=>315|233=>316|n=>n,fun|17=>1|18=>2|19=>3|n=>n⟩
def Tryz.aaz: Go.Proofs.LaysM.n171 Tryz.prog Tryz.PJ:= {
 mixed:=by kernel_rfl
 f129:=Tryz.func228.trans (congrArg some (by kernel_rfl))
 f171:=Tryz.func136.trans (congrArg some (by kernel_rfl))
 f243:=Tryz.func171.trans (congrArg some (by kernel_rfl))
 f246:=Tryz.func192.trans (congrArg some (by kernel_rfl))
 f283:=Tryz.func211.trans (congrArg some (by kernel_rfl))
 f284:=Tryz.func212.trans (congrArg some (by kernel_rfl))
 f285:=Tryz.func213.trans (congrArg some (by kernel_rfl))
 f286:=Tryz.func214.trans (congrArg some (by kernel_rfl))
 f317:=Tryz.func227.trans (congrArg some (by kernel_rfl))
 f318:=Tryz.func229.trans (congrArg some (by kernel_rfl))
 f319:=Tryz.func230.trans (congrArg some (by kernel_rfl))
 f320:=Tryz.func231.trans (congrArg some (by kernel_rfl))
 f337:=Tryz.func235.trans (congrArg some (by kernel_rfl))
 f338:=Tryz.func236.trans (congrArg some (by kernel_rfl))
 t0:=Tryz.underlying0
 a0:=Tryz.isAgg0
 z0:=Tryz.sizeOf0
 v0:=Tryz.zeroValue0
 t2:=Tryz.underlying2
 a2:=Tryz.isAgg2
 z2:=Tryz.sizeOf2
 v2:=Tryz.zeroValue2
 t3:=Tryz.underlying3
 a3:=Tryz.isAgg3
 z3:=Tryz.sizeOf3
 v3:=Tryz.zeroValue3
 t4:=Tryz.underlying4
 a4:=Tryz.isAgg4
 z4:=Tryz.sizeOf4
 v4:=Tryz.zeroValue4
 t5:=Tryz.underlying5
 a5:=Tryz.isAgg5
 z5:=Tryz.sizeOf5
 v5:=Tryz.zeroValue5
 t9:=Tryz.underlying9
 a9:=Tryz.isAgg9
 z9:=Tryz.sizeOf9
 v9:=Tryz.zeroValue9
 t20:=Tryz.underlying20
 a20:=Tryz.isAgg20
 z20:=Tryz.sizeOf20
 v20:=Tryz.zeroValue20
 t37:=Tryz.underlying125
 a37:=Tryz.isAgg125
 z37:=Tryz.sizeOf125
 v37:=Tryz.zeroValue125
 t46:=Tryz.underlying155
 a46:=Tryz.isAgg155
 z46:=Tryz.sizeOf155
 v46:=Tryz.zeroValue155
 t51:=Tryz.underlying293
 a51:=Tryz.isAgg293
 z51:=Tryz.sizeOf293
 v51:=Tryz.zeroValue293
 t53:=Tryz.underlying152
 a53:=Tryz.isAgg152
 z53:=Tryz.sizeOf152
 v53:=Tryz.zeroValue152
 t171:=Tryz.underlying289
 a171:=Tryz.isAgg289
 z171:=Tryz.sizeOf289
 v171:=Tryz.zeroValue289
 t173:=Tryz.underlying291
 a173:=Tryz.isAgg291
 z173:=Tryz.sizeOf291
 v173:=Tryz.zeroValue291
 t212:=Tryz.underlying307
 a212:=Tryz.isAgg307
 z212:=Tryz.sizeOf307
 v212:=Tryz.zeroValue307
 t213:=Tryz.underlying308
 a213:=Tryz.isAgg308
 z213:=Tryz.sizeOf308
 t232:=Tryz.underlying315
 a232:=Tryz.isAgg315
 z232:=Tryz.sizeOf315
 v232:=Tryz.zeroValue315
 t233:=Tryz.underlying316
 a233:=Tryz.isAgg316
 z233:=Tryz.sizeOf316
 v233:=Tryz.zeroValue316
 g17:=by kernel_rfl
 g18:=by kernel_rfl
 g19:=by kernel_rfl
 i0:=by kernel_rfl
 i2:=by kernel_rfl
 i3:=by kernel_rfl
 i4:=by kernel_rfl
 i5:=by kernel_rfl
 i9:=by kernel_rfl
 i20:=by kernel_rfl
 i37:=by kernel_rfl
 i46:=by kernel_rfl
 i51:=by kernel_rfl
 i53:=by kernel_rfl
 i171:=by kernel_rfl
 i173:=by kernel_rfl
 i212:=by kernel_rfl
 i232:=by kernel_rfl
 i233:=by kernel_rfl
 m17:=by kernel_rfl
 m18:=by kernel_rfl
 m19:=by kernel_rfl }
open Go.RowKit Go.Sort Go.Lib in
def Tryz.strconv_Itoa (n : Int) (h0 : -9223372036854775808 ≤ n) (h1 : n ≤ 9223372036854775807) (w : World) (htab : Lib.TabIs Tryz.prog w "internal/strconv.uint64pow10" .u64 Lib.pow10Tab) :
    Calls Tryz.prog 136 #[.int .i64 n] w fun e w'=>e = .returned (.string ⟨(Lib.itoa n).toArray⟩)/\ ∃ k os,w'=grow (w.drewN k) os:=Any.strconv_Itoa Tryz.aaz n h0 h1 w htab
def Tryz.RP: Go.Shelf.Ren:=⟨fun|212=>224|263=>233|264=>234|n=>n,fun|46=>155|51=>293|146=>310|53=>152|148=>312|n=>n,fun|n=>n⟩
def Tryz.adg: Go.Proofs.Lays.n212 Tryz.prog Tryz.RP:= {
 mixed:=by kernel_rfl
 f212:=Tryz.func224.trans (congrArg some (by kernel_rfl))
 f263:=Tryz.func233.trans (congrArg some (by kernel_rfl))
 f264:=Tryz.func234.trans (congrArg some (by kernel_rfl))
 t46:=Tryz.underlying155
 a46:=Tryz.isAgg155
 z46:=Tryz.sizeOf155
 v46:=Tryz.zeroValue155
 t51:=Tryz.underlying293
 a51:=Tryz.isAgg293
 z51:=Tryz.sizeOf293
 v51:=Tryz.zeroValue293
 t53:=Tryz.underlying152
 a53:=Tryz.isAgg152
 z53:=Tryz.sizeOf152
 v53:=Tryz.zeroValue152
 t146:=Tryz.underlying310
 a146:=Tryz.isAgg310
 z146:=Tryz.sizeOf310
 v146:=Tryz.zeroValue310
 t148:=Tryz.underlying312
 a148:=Tryz.isAgg312
 z148:=Tryz.sizeOf312
 v148:=Tryz.zeroValue312 }
open Go.RowKit Go.Lib in
def Tryz.bits_Mul (x y : Nat) (hx : x < 18446744073709551616) (hy : y < 18446744073709551616) (w : World) :
    Calls Tryz.prog 224 #[.int .u64 x,.int .u64 y] w fun e w'=>e = .returned (.tuple #[.int .u64 ((x*y / 18446744073709551616:Nat):Int),.int .u64 ((x*y % 18446744073709551616:Nat):Int)])/\w'=w:=Any.bits_Mul Tryz.adg x y hx hy w
end Go.Proofs
namespace Go.Proofs.YthakfmmgnjpmdaaGreatDoor
open Go.AM
set_option maxRecDepth 4000
def ou {P : Program} {f : FuncId} {args : List AV} {r : AV} (hf : Has P f)
    (h : ∀ (g : aE) (w : World) (σ : ae) (vs : Array Value), Rel g w σ -> args.length = vs.size -> (∀ i, i < args.length -> VR g w (args.getD i .undef) (vs.getD i Go.undef)) ->
      ∃ v,(∀ g' w',VR g' w' r v)/\Calls P f vs w fun e w'=>e = .returned v/\w'.os=w.os/\w'.tape=w.tape/\w'.output=w.output/\w.heap.size<=w'.heap.size/\ ∀ b,b<w.heap.size->w'.heap[b]? = w.heap[b]?):aM P f args r:=by
 intro σ;refine⟨hf,fun g w vs hR hl hv=>?_⟩;obtain⟨v,h1,h2⟩:=h g w σ vs hR hl hv;refine h2.mono ?_;rintro e w' ⟨rfl,k1,k2,k3,k4,k5⟩;obtain⟨r1,r2⟩:=hR.vV k4 k1 k2 k3 k5;exact⟨.ret r,_,σ,r1,r2,h1 _ _,rfl,rfl⟩
def VR.N3{g:aE}{w:World}(s:aO): VR g w (.str s) (.string ⟨s.toArray⟩):=VR.str s
def XW{vs:Array Value}(h:1=vs.size): vs = #[vs.getD 0 Go.undef]:=by
 apply Array.ext
 ·simp[<-h]
 ·intro i h1 h2;simp at h2;subst h2;simp[<-h]
def PK{vs:Array Value}(h:2=vs.size): vs = #[vs.getD 0 Go.undef,vs.getD 1 Go.undef]:=by
 apply Array.ext
 ·simp[<-h]
 ·intro i h1 h2;simp at h2;obtain rfl|rfl:i=0\/i=1:=by omega
  ·simp[<-h]
  ·simp[<-h]
def strconv_Itoa(n:Int)(h0 : -9223372036854775808<=n)(h1:n<=9223372036854775807): aM aH 136 [I n] (.str (Lib.itoa n)):=by
 refine ou ⟨_,Tryz.func136,by kernel_rfl,by kernel_rfl⟩ fun g w σ vs hR hl hv=>?_;have h2:=hv 0 (by simp);rw[XW hl];generalize vs.getD 0 Go.undef=v at h2;simp only[bD]at h2;cases h2;refine⟨_,fun g' w'=>VR.N3 (Lib.itoa n),(Tryz.strconv_Itoa n h0 h1 w hR.glob.2).mono ?_⟩;rintro e w' ⟨rfl,k,os,rfl⟩;refine⟨rfl,rfl,rfl,rfl,by simp[Sort.grow,World.drewN],fun b hb=>?_⟩;simp only[Sort.grow,World.drewN];rw[dI (by simpa using hb)]
def strconv_FormatBool(b:Bool): aM aH 138 [.bool b] (.str (if b then zk else wh)):=by
 refine ou ⟨_,Tryz.func138,by kernel_rfl,by kernel_rfl⟩ fun g w σ vs hR hl hv=>?_;have h2:=hv 0 (by simp);rw[XW hl];generalize vs.getD 0 Go.undef=v at h2;simp only[bD]at h2;cases h2;have e:Lib.formatBool b=if b then zk else wh:=by cases b<;>decide
 refine⟨_,fun g' w'=>VR.N3 (if b then zk else wh),(Tryz.strconv_FormatBool b w).mono ?_⟩;rintro e w' ⟨rfl,rfl⟩;refine⟨by rw[e],rfl,rfl,rfl,Nat.le_refl _,fun _ _=>rfl⟩
def strings_Join(l:List aO)(sep:aO)(hl:l.length<=2 ^ 40)(hj:(Lib.join l sep).length<=2 ^ 40): aM aH 54 [lC l,.str sep] (.str (Lib.join l sep)):=by
 refine ou ⟨_,Tryz.func54,by kernel_rfl,by kernel_rfl⟩ fun g w σ vs hR hlen hv=>?_;have h2:=hv 0 (by simp);have h3:=hv 1 (by simp);rw[PK hlen];generalize vs.getD 0 Go.undef=v at h2;generalize vs.getD 1 Go.undef=u at h3;simp only[bD,fZ]at h2 h3;cases h3;simp only[lC]at h2;generalize hxs:l.map gW=xs at h2;have below:∀ w':World,RowKit.Below w.heap.size w w'->w'.os=w.os/\w'.tape=w.tape/\w'.output=w.output/\w.heap.size<=w'.heap.size/\ ∀ b,b<w.heap.size->w'.heap[b]? = w.heap[b]?:=fun w' h=>⟨h.os,h.tape,h.output,h.size,h.block⟩;cases h2 with
 | iL f el b cap hf =>
   obtain rfl:l=[]:=by cases l<;>simp at hxs;rfl
   refine⟨_,fun g' w'=>VR.N3 (Lib.join [] sep),(Tryz.strings_Join_none b cap ⟨sep.toArray⟩ w).mono ?_⟩;rintro e w' ⟨rfl,rfl⟩;refine⟨rfl,rfl,rfl,rfl,Nat.le_refl _,fun _ _=>rfl⟩
 | aN f el xs b off cap hi hf hx ft hc h =>
   subst hxs;have I3:=hR.lt b hi
   have hm:(l.map fun s=>(⟨s.toArray⟩:ByteArray)).map (·.data.toList)=l:=by
    rw[List.map_map];conv=>rhs;rw[<-List.map_id l]
    rfl
   have hcells:∀ (j:Nat) x,(l.map fun s=>(⟨s.toArray⟩:ByteArray))[j]? = some x->w.cell? ⟨b,off+j,none⟩=some (.string x):=fun j x hx'=>by
    obtain⟨hj',rfl⟩:=aK.1 hx';have rD:j<l.length:=by simpa using hj'
    have c1:=hc j 0 (by simpa using rD) (by decide);have c2:=h j 0 (by simpa using rD) (by decide);have e1:off+(j*(⟨false,1⟩:El).sz+0)=off+j:=by show off+(j*1+0)=off+j;omega
    rw[e1]at c1 c2;obtain⟨v,hv⟩:=fM.1 c1;have e2:((l.map gW).getD j .undef).cell 0 = .str (l[j]):=by simp[rD,gW,AV.cell]
    rw[e2]at c2;simp only[dY,hv,bw]at c2;cases c2;rw[hv];simp
   have:=Tryz.strings_Join b off cap (l.map fun s=>(⟨s.toArray⟩:ByteArray)) ⟨sep.toArray⟩ w hcells I3 (by simp;omega) (by simpa using hx) (by rw[hm];show(Lib.join l sep).length<=_;omega);rw[hm]at this;simp only[List.length_map]at this ⊢;refine⟨_,fun g' w'=>VR.N3 (Lib.join l sep),this.mono ?_⟩;rintro e w' ⟨rfl,hb⟩;exact⟨rfl,below w' hb⟩
def aaA{m:Nat}(h:10<=m): Lib.decDigits m=Lib.decDigits (m / 10)++[UInt8.ofNat (48+m % 10)]:=by
 conv=>lhs;rw[Lib.decDigits]
 rw[dif_neg (by omega)]
def Jf{m:Nat}(h:m<10): Lib.decDigits m=[UInt8.ofNat (48+m)]:=by rw[Lib.decDigits,dif_pos h]
def PL(k:Nat): ∀ u:Nat,u<10 ^ (k+1)->(Lib.decDigits u).length<=k+1:=by
 induction k with
 | zero=>intro u h;rw[Jf (by omega)];simp
 | succ k ih =>
   intro u h;by_cases h9:u<10
   ·rw[Jf h9];simp
   ·rw[aaA (by omega),List.length_append];have:=ih (u / 10) (by rw[Nat.pow_succ]at h;omega);simp only[List.length_cons,List.length_nil];omega
def k_(c:UInt8): aO:=if c.toNat=34\/c.toNat=92 then [92,c]else [c]
def qK(s:aO): aO:=34::(s.flatMap k_++[34])
def Vg{s:aO}{i:Nat}(h:i<s.length): (s.take (i+1)).flatMap k_=(s.take i).flatMap k_++k_ (s.getD i 0):=by
 rw[List.take_succ_eq_append_getElem h,List.flatMap_append];simp[h]
def Mj(s:aO): (s.flatMap k_).length<=2*s.length:=by
 induction s with
 | nil=>simp
 | cons c r ih =>
   rw[fh,List.length_append,List.length_cons];have:(k_ c).length<=2:=by unfold k_;split<;>simp
   omega
def xw(v:aL): aO:=if v.kind=1 then Lib.itoa v.n else if v.kind=2 then qK v.s else if v.kind=3 then(if v.n=1 then zk else wh)else I_
def rJ: aO:=[105,102,32]
def ov: aO:=[32,116,104,101,110,32]
def ug: aO:=[32,101,108,115,101,32]
def kP(w:Int × aO)(lvl:Int): aO:=if w.1<lvl then 40::(w.2++[41])else w.2
def n7(op:Int)(v:aL)(s:aO)(ws:List (Int × aO)): aO :=
 if op=1 then xw v else if op=2 then s
 else if op=3 then 45::kP (ws.getD 0 default) 6
 else if op=16 then rJ++kP (ws.getD 0 default) 0++ov++kP (ws.getD 1 default) 0++ug++kP (ws.getD 2 default) 0
 else kP (ws.getD 0 default) (if(cn op).level=3 then 4 else(cn op).level)++[32]++(cn op).sign++[32]++kP (ws.getD 1 default) ((cn op).level+1)
mutual
def dR: Expr->aO
 | .mk op v s l=>n7 op v s (qL l)
def qL: List Expr->List (Int × aO)
 | []=>[]
 | x::r=>(ef x.op,dR x)::qL r
end
def kS(x:Expr)(lvl:Int): aO:=kP (ef x.op,dR x) lvl
def aaB(n:Int)(h0 : -9223372036854775808<=n)(h1:n<=9223372036854775807): (Lib.itoa n).length<=21:=by
 unfold Lib.itoa;split
 ·have:=PL 19 n.natAbs (by omega);rw[List.length_cons];omega
 ·have:=PL 19 n.toNat (by omega);omega
def XX(v:aL)(h0 : -9223372036854775808<=v.n)(h1:v.n<=9223372036854775807)(hr:br v=true): (xw v).length<=82:=by
 unfold xw;split
 ·have:=aaB v.n h0 h1;omega
 split
 ·rename_i h1 h2;unfold br at hr;rw[if_neg (by omega),if_neg (by omega),if_pos h2]at hr;simp only[kO,aj,decide_eq_true_eq]at hr;have:=Mj v.s;simp only[qK,List.length_cons,List.length_append,List.length_nil];omega
 split
 ·split<;>simp[zk,wh]
 ·simp[I_]
def Jg(w:Int × aO)(lvl:Int): (kP w lvl).length<=w.2.length+2:=by
 unfold kP;split<;>simp
def PN(op:Int): (cn op).sign.length<=3:=by
 unfold cn;cases h:jh.find? (fun b=>b.op==op)with
 | none=>simp
 | some b =>
   have:=f_ h;simp only[jh,List.mem_cons,List.not_mem_nil,or_false]at this;rcases this with rfl|rfl|rfl|rfl|rfl|rfl|rfl|rfl|rfl|rfl|rfl|rfl<;>simp
def mI {op : Int} {v : aL} {s : aO} {l : List Expr} (h : cq (.mk op v s l) = true) :
    (op=1/\l=[]/\s=[]/\br v=true/\(v.kind≠1\/0<=v.n))\/(op=2/\l=[]/\v=v0/\jU s=true)\/(op=3/\v=v0/\s=[]/\ ∃ a,l=[a]/\cq a=true) \/
    (op=16/\v=v0/\s=[]/\ ∃ a b c,l=[a,b,c]/\cq a=true/\cq b=true/\cq c=true) \/
    (4<=op/\op<=15/\v=v0/\s=[]/\1<=(cn op).level/\(cn op).level<=5/\ef op=(cn op).level/\(cn op).op=op/\(cn op) ∈ jh/\ ∃ a b,l=[a,b]/\cq a=true/\cq b=true):=by
 simp only[cq,aj,decide_eq_true_eq]at h;obtain⟨h1,h2⟩:=h;by_cases o1:op=1
 ·left;rw[if_pos o1]at h2;simp only[aj,decide_eq_true_eq,bU]at h2;have:jG op=0:=by unfold jG;rw[if_pos (.inl o1)]
  exact⟨o1,List.length_eq_zero_iff.1 (by omega),h2.1.1,h2.1.2,h2.2⟩
 rw[if_neg o1]at h2;by_cases o2:op=2
 ·right;left;rw[if_pos o2]at h2;simp only[aj,decide_eq_true_eq]at h2;have:jG op=0:=by unfold jG;rw[if_pos (.inr o2)]
  exact⟨o2,List.length_eq_zero_iff.1 (by omega),h2.1,h2.2⟩
 rw[if_neg o2]at h2;simp only[aj,decide_eq_true_eq]at h2;obtain⟨⟨h3,h4⟩,h5⟩:=h2;by_cases o3:op=3
 ·right;right;left;have:jG op=1:=by unfold jG;rw[if_neg (by omega),if_pos o3]
  match l,h1,h5 with
  | [a],_,h5=>simp only[rV,Bool.and_true]at h5;exact⟨o3,h3,h4,a,rfl,h5⟩
  | [],h1,_=>simp at h1;omega
  | _::_::_,h1,_=>simp at h1;omega
 by_cases o4:op=16
 ·right;right;right;left;have:jG op=3:=by unfold jG;rw[if_neg (by omega),if_neg o3,if_pos o4]
  match l,h1,h5 with
  | [a,b,c],_,h5=>simp only[rV,Bool.and_true,aj]at h5;exact⟨o4,h3,h4,a,b,c,rfl,h5.1,h5.2.1,h5.2.2⟩
  | [],h1,_=>simp at h1;omega
  | [_],h1,_=>simp at h1;omega
  | [_,_],h1,_=>simp at h1;omega
  | _::_::_::_::_,h1,_=>simp at h1;omega
 ·right;right;right;right;have hc:jG op=if 0<(cn op).level then 2 else -1:=by unfold jG;rw[if_neg (by omega),if_neg o3,if_neg o4]
  have hlv:0<(cn op).level:=by
   by_cases h:0<(cn op).level
   ·exact h
   ·rw[if_neg h]at hc;omega
  rw[if_pos hlv]at hc;have yu:ef op=(cn op).level:=by unfold ef;rw[if_neg o4,if_neg o3,if_neg (by omega)]
  have hf:(cn op).op=op/\cn op ∈ jh:=by
   unfold cn at hlv ⊢;cases hq:jh.find? (fun b=>b.op==op)with
   | none=>rw[hq]at hlv;simp at hlv
   | some b =>
     have h1:=eG hq;exact⟨by simpa using h1,f_ hq⟩
  have hb:4<=op/\op<=15/\(cn op).level<=5:=by
   obtain⟨q1,q2⟩:=hf;generalize cn op=b at q1 q2;simp only[jh,List.mem_cons,List.not_mem_nil,or_false]at q2;rcases q2 with rfl|rfl|rfl|rfl|rfl|rfl|rfl|rfl|rfl|rfl|rfl|rfl<;>(dsimp only at q1 ⊢;omega)
  match l,h1,h5 with
  | [a,b],_,h5=>simp only[rV,Bool.and_true,aj]at h5;exact⟨hb.1,hb.2.1,h3,h4,by omega,hb.2.2,yu,hf.1,hf.2,a,b,rfl,h5.1,h5.2⟩
  | [],h1,_=>simp at h1;omega
  | [_],h1,_=>simp at h1;omega
  | _::_::_::_,h1,_=>simp at h1;omega
def wJ{x:Expr}(h:cq x=true): 0<=ef x.op:=by
 obtain⟨op,v,s,l⟩:=x;rcases mI h with⟨rfl,_⟩|⟨rfl,_⟩|⟨rfl,_⟩|⟨rfl,_⟩|⟨_,_,_,_,h1,_,h2,_⟩
 ·show 0<=ef 1;decide
 ·show 0<=ef 2;decide
 ·show 0<=ef 3;decide
 ·show 0<=ef 16;decide
 ·show 0<=ef op;omega
def Hu{x:Expr}{lv:Int}(h:¬ ef x.op<lv): kS x lv=dR x:=by unfold kS kP;exact if_neg h
def PO{x:Expr}{lv:Int}(h:ef x.op<lv): kS x lv=40::(dR x++[41]):=by unfold kS kP;exact if_pos h
def XY{s:aO}(h:jU s=true): s.length<=16:=by
 simp only[jU,aj,decide_eq_true_eq]at h;exact h.1.2
def Vh(x:Expr): cq x=true->ig x->(dR x).length<=110*fW x:=by
 induction x using Expr.ind with
 | h op v s l ih =>
   intro hr hx;simp only[ig]at hx;obtain⟨_,_,Te,HT,hl⟩:=hx
   have key:∀ y ∈ l,cq y=true-> ∀ lvl,(kP (ef y.op,dR y) lvl).length<=110*fW y+2:=fun y hy XZ lvl=>by
    have:=ih y hy XZ (xI hl hy);have:=Jg (ef y.op,dR y) lvl;dsimp only at this;omega
   have hsg:=PN op;rcases mI hr with⟨rfl,rfl,rfl,h1,_⟩|⟨rfl,rfl,rfl,h1⟩|⟨rfl,rfl,rfl,a,rfl,ha⟩|⟨rfl,rfl,rfl,a,b,c,rfl,ha,hb,hc⟩|⟨o1,o2,rfl,rfl,_,_,_,_,_,a,b,rfl,ha,hb⟩
   ·have:=XX v Te HT h1;simp only[dR,n7,if_true,fW];omega
   ·have:=XY h1;simp[dR,n7,fW];omega
   ·have:=key a (by simp) ha 6;simp[dR,qL,n7,fW,mT];omega
   ·have k1:=key a (by simp) ha 0;have k2:=key b (by simp) hb 0;have k3:=key c (by simp) hc 0;simp[dR,qL,n7,fW,mT,rJ,ov,ug];omega
   ·have k1:=key a (by simp) ha (if(cn op).level=3 then 4 else(cn op).level);have k2:=key b (by simp) hb ((cn op).level+1)
    have:dR (.mk op v0 [] [a,b])=kP (ef a.op,dR a) (if(cn op).level=3 then 4 else(cn op).level)++[32]++(cn op).sign++[32]++kP (ef b.op,dR b) ((cn op).level+1):=by
     simp only[dR,qL,n7];rw[if_neg (by omega),if_neg (by omega),if_neg (by omega),if_neg (by omega)];rfl
    rw[this];simp only[List.length_append,List.length_cons,List.length_nil,fW,mT];omega
def ow(x:Expr): Bool:=decide (200<(dR x).length)
def nK(x:Expr): aO × Int:=if cq x=false then([],2)else if 12<kV x then([],12)else if ow x=true then([],5)else (dR x,0)
def aaC{x:Expr}(hr:cq x=true): kS x 0=dR x:=by
 have:=wJ hr;exact Hu (by omega)
