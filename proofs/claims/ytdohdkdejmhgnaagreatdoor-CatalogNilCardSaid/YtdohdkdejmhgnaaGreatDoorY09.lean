/- Part. -/
import Derived.Test.YtdohdkdejmhgnaaGreatDoorY08
import Derived.Shelf.Strings.OnBuilder
import Derived.Shelf.Strings.Repeat
import Derived.Shelf.Small.Strs
import Derived.Shelf.Small.Wraps
import Derived.Shelf.LaysM
import Derived.Shelf.Strconv.Itoa3
import Derived.Test.YtdohdkdejmhgnaaGreatDoorProg
set_option linter.all false
set_option maxHeartbeats 4000000
namespace Go.Proofs.YtdohdkdejmhgnaaGreatDoor
open Go.AM
set_option maxRecDepth 4000
def Uq(cs:List fh)(hcs:cs.length<=2^60)(kind:Int)(c:Cell)(h:Ms c): aA aM 346 [dK c,I kind,ei cs] (I (zL cs kind c)):=by
 have hR:=BS c h;obtain⟨hl,ht⟩:=h;cases hr:nR c with
 | false =>
   rw[show zL cs kind c=2 from by unfold zL;rw[if_neg (by simp[hr])]];rw[hr]at hR;simp only[nO,aN,if_false]at hR;simp only[dK,jT,ei]at hR |-;refine bB CJ ?_;intro Q aX aY aZ;repeat' first|refine aQ ?_|refine aR ?_ ?_<;>intro hw<;>try omega|fail
   exact bu rfl rfl
 | true =>
   rw[hr]at hR;simp only[nO,if_true]at hR;simp only[dK,jT,ei]at hR |-;refine bB CJ ?_;intro Q aX aY aZ;repeat' first|refine aQ ?_|refine aR ?_ ?_<;>intro hw<;>try omega|fail
   with_reducible refine dA [6,1,9,2,12,3,23,31] (fun q:Nat × List bG=>[(23,I q.1)]) (fun q=> .cells [.bool c.any,.bool c.neg,.aH false ES (c.tests.map dJ)]::q.2) (fun q=>q.1<=c.tests.length/\ ∀ k,k<q.1->(BX cs kind (c.tests.getD k default) != 0)=false) (fun q=>c.tests.length-q.1) (0,[]) ?_ ?_ ?_ ?_
   ·simp
   ·rfl
   ·exact at_
   rintro⟨i,H⟩ r ⟨h1,h2⟩;dsimp only at h1 h2;by_cases hi:i<c.tests.length
   ·have yz:=ht _ (dh hi);have qB:=fun e he hne=>acf (cs:=cs) (kind:=kind) (e:=e) hr hi h2 he hne;have fF:=fun he=>cS h2 (i:=i) he;obtain⟨t,HN⟩:=gi (c.tests.getD i default);rw[HN]at yz qB fF;have ka:=xB cs hcs t.a yz.1.1 yz.1.2;have kb:=xB cs hcs t.b yz.2.1 yz.2.2;have fa:=Mw t kind (jZ cs t.a).1;have fb:=Mw t kind (jZ cs t.b).1;have hp:=Up t;simp only[BX]at qB fF;generalize BW t kind (jZ cs t.a).1=va at *;generalize BW t kind (jZ cs t.b).1=vb at *;generalize jZ cs t.a=ra at *;generalize jZ cs t.b=rb at *;rw[bE]at ka kb;simp only[dJ,dG,ei]at ka kb fa fb;by_cases h6:t.kind=6
    ·rw[Js,aB h6,dG,bN,bN,fH,bE,bE]at hp;simp only[dJ,dG]at hp;simp only[aB h6]at qB fF;repeat' first|refine fy HN ?_|refine aQ ?_|refine aR ?_ ?_<;>intro hw<;>try omega|fail
     with_reducible refine dA [6,1,10,1,12,3,30,21] (fun q:Int × Bool × List bG=>[(30,I q.1),(10,.bool q.2.1)]) (fun q=> .cells [.bool c.any,.bool c.neg,.aH false ES (c.tests.map dJ)]::q.2.2) (fun q=>((q.1=0/\q.2.1=true)\/(q.1=1/\ra.2=0/\q.2.1=va)\/(q.1=2/\ra.2=0/\rb.2=0/\q.2.1=(va && vb)))/\q.2.2[H.length]? = some (.cells [I t.kind,I t.a.op,I t.a.v.kind,I t.a.v.n,.str t.a.v.s,.str t.a.s,.aH false EX (t.a.l.map br),I t.b.op,I t.b.v.kind,I t.b.v.n,.str t.b.v.s,.str t.b.s,.aH false EX (t.b.l.map br),.bool t.lo,.bool t.hi])) (fun q=>(2-q.1).toNat) (0,true,H++[.cells [I t.kind,I t.a.op,I t.a.v.kind,I t.a.v.n,.str t.a.v.s,.str t.a.s,.aH false EX (t.a.l.map br),I t.b.op,I t.b.v.kind,I t.b.v.n,.str t.b.v.s,.str t.b.s,.aH false EX (t.b.l.map br),.bool t.lo,.bool t.hi]]) ?_ ?_ ?_ ?_
     ·exact⟨.inl ⟨rfl,rfl⟩,aT⟩
     ·rfl
     ·exact at_
     clear hp;rintro⟨j,ok,Jt⟩ r2 ⟨hj,hk⟩;dsimp only at hj hk;have lZ:=fun d:bG=>(aO (l₁:=Jt) (l₂:=[d]) (aK.1 hk).1).trans hk;rcases hj with⟨rfl,rfl⟩|⟨rfl,hra,rfl⟩|⟨rfl,hra,hrb,rfl⟩
     ·repeat' first|simp (disch:=omega) only[go_sem,aX,aY,aZ,hk,lZ,Int.toNat_one]|refine aQ ?_|refine aR ?_ ?_<;>intro hw<;>try omega|fail
      all_goals first
       |(refine bu ?_ rfl;refine bC I ?_;symm;refine qB _ ?_ ?_<;>(clear qB fF;simp_all;done))
       | (refine ⟨(1, va, Jt ++ [.cells [I t.a.op, I t.a.v.kind, I t.a.v.n, .str t.a.v.s, .str t.a.s, .aH false EX (t.a.l.map br)]]), ?_, ?_, ?_, fU, at_⟩ <;> (try dsimp only)
          ·exact⟨.inr (.inl ⟨rfl,by assumption,rfl⟩),lZ _⟩
          ·omega
          all_goals (first|rfl|(simp[go_sem];done)))
       | exact eu
     ·cases ok
      ·repeat' first|simp (disch:=omega) only[go_sem,aX,aY,aZ,hk,lZ,Int.toNat_one]|refine aQ ?_|refine aR ?_ ?_<;>intro hw<;>try omega|fail
       all_goals first
        |(refine bu ?_ rfl;refine bC I ?_;symm;refine qB _ ?_ ?_<;>(clear qB fF;simp_all;done))
        | (refine ⟨(2, false, Jt ++ [.cells [I t.b.op, I t.b.v.kind, I t.b.v.n, .str t.b.v.s, .str t.b.s, .aH false EX (t.b.l.map br)]]), ?_, ?_, ?_, fU, at_⟩ <;> (try dsimp only)
           ·exact⟨.inr (.inr ⟨rfl,by assumption,by assumption,rfl⟩),lZ _⟩
           ·omega
           all_goals (first|rfl|(simp[go_sem];done)))
        | exact eu
      repeat' first|simp (disch:=omega) only[go_sem,aX,aY,aZ,hk,lZ,Int.toNat_one]|refine aQ ?_|refine aR ?_ ?_<;>intro hw<;>try omega|fail
      all_goals first
       |(refine bu ?_ rfl;refine bC I ?_;symm;refine qB _ ?_ ?_<;>(clear qB fF;simp_all;done))
       | (refine ⟨(2, vb, Jt ++ [.cells [I t.b.op, I t.b.v.kind, I t.b.v.n, .str t.b.v.s, .str t.b.s, .aH false EX (t.b.l.map br)]]), ?_, ?_, ?_, fU, at_⟩ <;> (try dsimp only)
          ·exact⟨.inr (.inr ⟨rfl,by assumption,by assumption,rfl⟩),lZ _⟩
          ·omega
          all_goals (first|rfl|(simp[go_sem];done)))
       | exact eu
     repeat' first|refine fy (zA hk lZ) ?_|refine aQ ?_|refine aR ?_ ?_<;>intro hw<;>try omega|fail
     all_goals first
      |(refine bu ?_ rfl;refine bC I ?_;symm;refine qB _ ?_ ?_<;>(clear qB fF;simp_all;done))
      | (refine ⟨(i + 1, Jt), ?_, ?_, ?_, fU, at_⟩ <;> (try dsimp only)
         ·exact⟨ae,fF (by clear qB fF;simp_all)⟩
         ·omega
         all_goals (first|rfl|(simp[go_sem];done)))
      | exact eu
    rw[Js,aq h6,dG,bN,fH,bE]at hp;simp only[dJ,dG]at hp;simp only[aq h6]at qB fF;repeat' first|refine fy HN ?_|refine aQ ?_|refine aR ?_ ?_<;>intro hw<;>try omega|fail
    with_reducible refine dA [6,1,10,1,12,3,30,21] (fun q:Int × Bool × List bG=>[(30,I q.1),(10,.bool q.2.1)]) (fun q=> .cells [.bool c.any,.bool c.neg,.aH false ES (c.tests.map dJ)]::q.2.2) (fun q=>((q.1=0/\q.2.1=true)\/(q.1=1/\ra.2=0/\q.2.1=va))/\q.2.2[H.length]? = some (.cells [I t.kind,I t.a.op,I t.a.v.kind,I t.a.v.n,.str t.a.v.s,.str t.a.s,.aH false EX (t.a.l.map br),I t.b.op,I t.b.v.kind,I t.b.v.n,.str t.b.v.s,.str t.b.s,.aH false EX (t.b.l.map br),.bool t.lo,.bool t.hi])) (fun q=>(2-q.1).toNat) (0,true,H++[.cells [I t.kind,I t.a.op,I t.a.v.kind,I t.a.v.n,.str t.a.v.s,.str t.a.s,.aH false EX (t.a.l.map br),I t.b.op,I t.b.v.kind,I t.b.v.n,.str t.b.v.s,.str t.b.s,.aH false EX (t.b.l.map br),.bool t.lo,.bool t.hi]]) ?_ ?_ ?_ ?_
    ·exact⟨.inl ⟨rfl,rfl⟩,aT⟩
    ·rfl
    ·exact at_
    clear hp;rintro⟨j,ok,Jt⟩ r2 ⟨hj,hk⟩;dsimp only at hj hk;have lZ:=fun d:bG=>(aO (l₁:=Jt) (l₂:=[d]) (aK.1 hk).1).trans hk;rcases hj with⟨rfl,rfl⟩|⟨rfl,hra,rfl⟩
    ·repeat' first|simp (disch:=omega) only[go_sem,aX,aY,aZ,hk,lZ,Int.toNat_one]|refine aQ ?_|refine aR ?_ ?_<;>intro hw<;>try omega|fail
     all_goals first
      |(refine bu ?_ rfl;refine bC I ?_;symm;refine qB _ ?_ ?_<;>(clear qB fF;simp_all;done))
      | (refine ⟨(1, va, Jt ++ [.cells [I t.a.op, I t.a.v.kind, I t.a.v.n, .str t.a.v.s, .str t.a.s, .aH false EX (t.a.l.map br)]]), ?_, ?_, ?_, fU, at_⟩ <;> (try dsimp only)
         ·exact⟨.inr ⟨rfl,by assumption,rfl⟩,lZ _⟩
         ·omega
         all_goals (first|rfl|(simp[go_sem];done)))
      | exact eu
    repeat' first|refine fy (zA hk lZ) ?_|refine aQ ?_|refine aR ?_ ?_<;>intro hw<;>try omega|fail
    all_goals first
     |(refine bu ?_ rfl;refine bC I ?_;symm;refine qB _ ?_ ?_<;>(clear qB fF;simp_all;done))
     | (refine ⟨(i + 1, Jt), ?_, ?_, ?_, fU, at_⟩ <;> (try dsimp only)
        ·exact⟨ae,fF (by clear qB fF;simp_all)⟩
        ·omega
        all_goals (first|rfl|(simp[go_sem];done)))
     | exact eu
   repeat' first|refine aQ ?_|refine aR ?_ ?_<;>intro hw<;>try omega|fail
   refine bu ?_ rfl;rw[Zz hr (fun k hk=>h2 k ae)]
end Go.Proofs.YtdohdkdejmhgnaaGreatDoor
namespace Go.Proofs
open Go.Shelf
def Tryz.GN: Go.Shelf.Ren:=⟨fun|156=>184|165=>149|166=>150|169=>152|240=>232|241=>233|276=>313|277=>314|n=>n,fun|31=>44|9=>9|3=>3|4=>4|0=>0|20=>20|72=>268|76=>272|70=>266|37=>210|75=>271|127=>358|164=>421|5=>5|80=>207|n=>n,fun|n=>n⟩
def Tryz.Sw: Go.Proofs.Lays.n156 Tryz.prog Tryz.GN:=NY
def Tryz.vN: Builder.Extra Tryz.prog Tryz.GN:=NY
open Go.RowKit in
def Tryz.strings_Join_none (a : Option Addr) (c : Nat) (sep : ByteArray) (w : World) :
    Calls Tryz.prog 184 #[.slice a 0 c,.string sep] w fun e w'=>e = .returned (.string ⟨#[]⟩)/\w'=w:=Any.strings_Join_none Tryz.Sw Tryz.vN a c sep w
open Go.RowKit in
def Tryz.strings_Join (bk o c : Nat) (xs : List ByteArray) (sep : ByteArray) (w : World) (hcells : ∀ (j : Nat) x, xs[j]? = some x -> w.cell? ⟨bk, o + j, none⟩ = some (.string x)) (hbk : bk < w.heap.size) (hN : xs.length <= 140737488355328) (hcap : xs.length <= c) (hlen : (Lib.join (xs.map (·.data.toList)) sep.data.toList).length <= 140737488355328) :
    Calls Tryz.prog 184 #[.slice (some ⟨bk,o,none⟩) xs.length c,.string sep] w fun e w'=>e = .returned (.string ⟨(Lib.join (xs.map (·.data.toList)) sep.data.toList).toArray⟩)/\Below w.heap.size w w':=Any.strings_Join Tryz.Sw Tryz.vN bk o c xs sep w hcells hbk hN hcap hlen
def Tryz.Ro: Go.Shelf.Ren:=⟨fun|106=>145|213=>228|265=>312|n=>n,fun|9=>9|3=>3|n=>n,fun|n=>n⟩
def Tryz.acg: Go.Proofs.Lays.n106 Tryz.prog Tryz.Ro:=NY
open Go.RowKit in
def Tryz.strings_Compare (a b : ByteArray) (w : World) :
    Calls Tryz.prog 145 #[.string a,.string b] w fun e w'=>e = .returned (.int .i64 (Lib.compareBytes a.data.toList b.data.toList))/\w'=w:=Any.strings_Compare Tryz.acg a b w
def Tryz.Rp: Go.Shelf.Ren:=⟨fun|121=>358|214=>404|n=>n,fun|4=>4|9=>9|n=>n,fun|n=>n⟩
def Tryz.ach: Go.Proofs.Lays.n121 Tryz.prog Tryz.Rp:=NY
open Go.RowKit in
def Tryz.strconv_FormatBool (b : Bool) (w : World) :
    Calls Tryz.prog 358 #[.bool b] w fun e w'=>e = .returned (.string ⟨(Lib.formatBool b).toArray⟩)/\w'=w:=Any.strconv_FormatBool Tryz.ach b w
def Tryz.Pv: Go.Shelf.Ren:=⟨fun|171=>356|243=>402|246=>439|283=>468|284=>469|285=>470|286=>471|129=>453|317=>485|318=>486|319=>487|320=>488|337=>490|338=>491|n=>n,fun|3=>3|9=>9|2=>2|4=>4|171=>571|0=>0|53=>228|37=>210|5=>5|173=>573|212=>586|51=>353|20=>20|213=>587|46=>231|232=>590|233=>591|n=>n,fun|17=>3|18=>4|19=>5|n=>n⟩
def Tryz.ZA: Go.Proofs.LaysM.n171 Tryz.prog Tryz.Pv:=NY
open Go.RowKit Go.Sort Go.Lib in
def Tryz.strconv_Itoa (n : Int) (h0 : -9223372036854775808 ≤ n) (h1 : n ≤ 9223372036854775807) (w : World) (htab : Lib.TabIs Tryz.prog w "internal/strconv.uint64pow10" .u64 Lib.pow10Tab) :
    Calls Tryz.prog 356 #[.int .i64 n] w fun e w'=>e = .returned (.string ⟨(Lib.itoa n).toArray⟩)/\ ∃ k os,w'=grow (w.drewN k) os:=Any.strconv_Itoa Tryz.ZA n h0 h1 w htab
def Tryz.GO: Go.Shelf.Ren:=⟨fun|105=>75|212=>147|99=>148|165=>149|166=>150|170=>151|169=>152|263=>229|264=>230|206=>231|240=>232|241=>233|276=>313|277=>314|n=>n,fun|9=>9|3=>3|4=>4|20=>20|0=>0|46=>231|109=>263|5=>5|72=>268|76=>272|51=>353|146=>354|53=>228|148=>356|70=>266|37=>210|75=>271|127=>358|164=>421|80=>207|n=>n,fun|n=>n⟩
def Tryz.aci: Go.Proofs.Lays.n105 Tryz.prog Tryz.GO:=NY
def Tryz.Gh: Builder.Extra Tryz.prog Tryz.GO:=NY
open Go.RowKit Go.Lib in
def Tryz.strings_Repeat (s : ByteArray) (c : Nat) (w : World) (hc : c <= 9223372036854775807) (hlen : s.size * c <= 140737488355328) :
    Calls Tryz.prog 75 #[.string s,.int .i64 c] w fun e w'=>e = .returned (.string ⟨(Lib.repeatL s.data.toList c).toArray⟩)/\Below w.heap.size w w':=Any.strings_Repeat Tryz.aci Tryz.Gh s c w hc hlen
end Go.Proofs
namespace Go.Proofs.YtdohdkdejmhgnaaGreatDoor
open Go.AM
set_option maxRecDepth 4000
def l8 {P : Program} {f : FuncId} {args : List AV} {r : AV} (hf : Has P f)
    (h : ∀ (g : aC) (w : World) (σ : ai) (vs : Array Value), Rel g w σ -> args.length = vs.size -> (∀ i, i < args.length -> VR g w (args.getD i .undef) (vs.getD i Go.undef)) ->
      ∃ v,(∀ g' w',VR g' w' r v)/\Calls P f vs w fun e w'=>e = .returned v/\w'.os=w.os/\w'.tape=w.tape/\w'.output=w.output/\w.heap.size<=w'.heap.size/\ ∀ b,b<w.heap.size->w'.heap[b]? = w.heap[b]?):aA P f args r:=by
 intro σ;refine⟨hf,fun g w vs hR hl hv=>?_⟩;obtain⟨v,h1,h2⟩:=h g w σ vs hR hl hv;refine h2.mono ?_;rintro e w' ⟨rfl,k1,k2,k3,k4,k5⟩;obtain⟨r1,r2⟩:=hR.pQ k4 k1 k2 k3 k5;exact⟨.ret r,_,σ,r1,r2,h1 _ _,rfl,rfl⟩
def VR.NP{g:aC}{w:World}(s:bj): VR g w (.str s) (.string ⟨s.toArray⟩):=VR.str s
def W5{vs:Array Value}(h:1=vs.size): vs = #[vs.getD 0 Go.undef]:=by
 apply Array.ext
 ·simp[<-h]
 intro i h1 h2;simp at h2;subst h2;simp[<-h]
def Ju{vs:Array Value}(h:2=vs.size): vs = #[vs.getD 0 Go.undef,vs.getD 1 Go.undef]:=by
 apply Array.ext
 ·simp[<-h]
 intro i h1 h2;simp at h2;obtain rfl|rfl:i=0\/i=1:=ae
 ·simp[<-h]
 simp[<-h]
def strconv_Itoa(n:Int)(h0 : -9223372036854775808<=n)(h1:n<=9223372036854775807): aA aM 356 [I n] (.str (Lib.itoa n)):=by
 refine l8 ⟨_,Tryz.func356,b_,b_⟩ fun g w σ vs hR hl hv=>?_;have h2:=hv 0 aT;rw[W5 hl];generalize vs.getD 0 Go.undef=v at h2;simp only[cC]at h2;cases h2;refine⟨_,fun g' w'=>VR.NP (Lib.itoa n),(Tryz.strconv_Itoa n h0 h1 w hR.glob.2).mono ?_⟩;rintro e w' ⟨rfl,k,os,rfl⟩;refine⟨rfl,rfl,rfl,rfl,by simp[Sort.grow,World.drewN],fun b hb=>?_⟩;simp only[Sort.grow,World.drewN];rw[bT (by simpa using hb)]
def strconv_FormatBool(b:Bool): aA aM 358 [.bool b] (.str (if b then yS else uT)):=by
 refine l8 ⟨_,Tryz.func358,b_,b_⟩ fun g w σ vs hR hl hv=>?_;have h2:=hv 0 aT;rw[W5 hl];generalize vs.getD 0 Go.undef=v at h2;simp only[cC]at h2;cases h2;have e:Lib.formatBool b=if b then yS else uT:=by cases b<;>decide
 refine⟨_,fun g' w'=>VR.NP (if b then yS else uT),(Tryz.strconv_FormatBool b w).mono ?_⟩;rintro e w' ⟨rfl,rfl⟩;refine⟨by rw[e],rfl,rfl,rfl,aV _,fun _ _=>rfl⟩
def strings_Join(l:List bj)(sep:bj)(hl:l.length<=2^40)(hj:(Lib.join l sep).length<=2^40): aA aM 184 [ji l,.str sep] (.str (Lib.join l sep)):=by
 refine l8 ⟨_,Tryz.func184,b_,b_⟩ fun g w σ vs hR hlen hv=>?_;have h2:=hv 0 aT;have h3:=hv 1 aT;rw[Ju hlen];generalize vs.getD 0 Go.undef=v at h2;generalize vs.getD 1 Go.undef=u at h3;simp only[cC,gu]at h2 h3;cases h3;simp only[ji]at h2;generalize hxs:l.map fG=xs at h2;have below:∀ w':World,RowKit.Below w.heap.size w w'->w'.os=w.os/\w'.tape=w.tape/\w'.output=w.output/\w.heap.size<=w'.heap.size/\ ∀ b,b<w.heap.size->w'.heap[b]? = w.heap[b]?:=fun w' h=>⟨h.os,h.tape,h.output,h.size,h.block⟩;cases h2 with
 | iz f el b cap hf =>
   obtain rfl:l=[]:=by cases l<;>simp at hxs;rfl
   refine⟨_,fun g' w'=>VR.NP (Lib.join [] sep),(Tryz.strings_Join_none b cap ⟨sep.toArray⟩ w).mono ?_⟩;rintro e w' ⟨rfl,rfl⟩;refine⟨rfl,rfl,rfl,rfl,aV _,fun _ _=>rfl⟩
 | aH f el xs b off cap hi hf hx ft hc h =>
   subst hxs;have Pf:=hR.lt b hi
   have hm:(l.map fun s=>(⟨s.toArray⟩:ByteArray)).map (·.data.toList)=l:=by
    rw[List.map_map];conv=>rhs;rw[<-List.map_id l]
    rfl
   have hcells:∀ (j:Nat) x,(l.map fun s=>(⟨s.toArray⟩:ByteArray))[j]? = some x->w.cell? ⟨b,off+j,none⟩=some (.string x):=fun j x hx'=>by
    obtain⟨hj',rfl⟩:=aK.1 hx';have qA:j<l.length:=by simpa using hj'
    have c1:=hc j 0 (by simpa using qA) dV;have c2:=h j 0 (by simpa using qA) dV;have e1:off+(j*(⟨false,1⟩:El).sz+0)=off+j:=by show off+(j*1+0)=off+j;omega
    rw[e1]at c1 c2;obtain⟨v,hv⟩:=eJ.1 c1;have e2:((l.map fG).getD j .undef).cell 0 = .str (l[j]):=by simp[qA,fG,AV.cell]
    rw[e2]at c2;simp only[dn,hv,bF]at c2;cases c2;rw[hv];simp
   have:=Tryz.strings_Join b off cap (l.map fun s=>(⟨s.toArray⟩:ByteArray)) ⟨sep.toArray⟩ w hcells Pf (by simp;omega) (by simpa using hx) (by rw[hm];show(Lib.join l sep).length<=_;omega);rw[hm]at this;simp only[c8]at this |-;refine⟨_,fun g' w'=>VR.NP (Lib.join l sep),this.mono ?_⟩;rintro e w' ⟨rfl,hb⟩;exact⟨rfl,below w' hb⟩
def ZB{m:Nat}(h:10<=m): Lib.decDigits m=Lib.decDigits (m / 10)++[UInt8.ofNat (48+m % 10)]:=by
 conv=>lhs;rw[Lib.decDigits]
 rw[dif_neg ae]
def Jv{m:Nat}(h:m<10): Lib.decDigits m=[UInt8.ofNat (48+m)]:=by rw[Lib.decDigits,dif_pos h]
def Pw(k:Nat): ∀ u:Nat,u<10 ^ (k+1)->(Lib.decDigits u).length<=k+1:=by
 induction k with
 | zero=>intro u h;rw[Jv ae];simp
 | succ k ih =>
   intro u h;by_cases h9:u<10
   ·rw[Jv h9];simp
   rw[ZB ae,aG];have:=ih (u / 10) (by rw[Nat.pow_succ]at h;omega);simp only[aE,a_];omega
def nS(c:UInt8): bj:=if c.toNat=34\/c.toNat=92 then [92,c]else [c]
def xC(s:bj): bj:=34::(s.flatMap nS++[34])
def Ur{s:bj}{i:Nat}(h:i<s.length): (s.take (i+1)).flatMap nS=(s.take i).flatMap nS++nS (s.getD i 0):=by
 rw[List.take_succ_eq_append_getElem h,List.flatMap_append];simp[h]
def Mx(s:bj): (s.flatMap nS).length<=2*s.length:=by
 induction s with
 | nil=>simp
 | cons c r ih =>
   rw[List.flatMap_cons,aG,aE];have:(nS c).length<=2:=by unfold nS;split<;>simp
   omega
def BY(v:jC): bj:=if v.kind=1 then Lib.itoa v.n else if v.kind=2 then xC v.s else if v.kind=3 then(if v.n=1 then yS else uT)else Jn
def rC: bj:=[105,102,32]
def pW: bj:=[32,116,104,101,110,32]
def xD: bj:=[32,101,108,115,101,32]
def mP(w:Int × bj)(lvl:Int): bj:=if w.1<lvl then 40::(w.2++[41])else w.2
def sy(op:Int)(v:jC)(s:bj)(ws:List (Int × bj)): bj :=
 if op=1 then BY v else if op=2 then s
 else if op=3 then 45::mP (ws.getD 0 default) 6
 else if op=16 then rC++mP (ws.getD 0 default) 0++pW++mP (ws.getD 1 default) 0++xD++mP (ws.getD 2 default) 0
 else mP (ws.getD 0 default) (if(ey op).level=3 then 4 else(ey op).level)++[32]++(ey op).sign++[32]++mP (ws.getD 1 default) ((ey op).level+1)
mutual
def fc: Expr->bj
 | .mk op v s l=>sy op v s (uU l)
def uU: List Expr->List (Int × bj)
 | []=>[]
 | x::r=>(eU x.op,fc x)::uU r
end
def kJ(x:Expr)(lvl:Int): bj:=mP (eU x.op,fc x) lvl
def ZC(n:Int)(h0 : -9223372036854775808<=n)(h1:n<=9223372036854775807): (Lib.itoa n).length<=21:=by
 unfold Lib.itoa;split
 ·have:=Pw 19 n.natAbs ae;rw[aE];omega
 have:=Pw 19 n.toNat ae;omega
def W6(v:jC)(h0 : -9223372036854775808<=v.n)(h1:v.n<=9223372036854775807)(hr:gZ v=true): (BY v).length<=82:=by
 unfold BY;split
 ·have:=ZC v.n h0 h1;omega
 split
 ·rename_i h1 h2;unfold gZ at hr;rw[aq ae,aq ae,aB h2]at hr;simp only[nN,aD,au]at hr;have:=Mx v.s;simp only[xC,aE,aG,a_];omega
 split
 ·split<;>simp[yS,uT]
 simp[Jn]
def Jw(w:Int × bj)(lvl:Int): (mP w lvl).length<=w.2.length+2:=by
 unfold mP;split<;>simp
def Px(op:Int): (ey op).sign.length<=3:=by
 unfold ey;cases h:kr.find? (fun b=>b.op==op)with
 | none=>simp
 | some b =>
   have:=gC h;simp only[kr,fj,eH,or_false]at this;rcases this with rfl|rfl|rfl|rfl|rfl|rfl|rfl|rfl|rfl|rfl|rfl|rfl<;>simp
def uu {op : Int} {v : jC} {s : bj} {l : List Expr} (h : eV (.mk op v s l) = true) :
    (op=1/\l=[]/\s=[]/\gZ v=true/\(v.kind≠1\/0<=v.n))\/(op=2/\l=[]/\v=v0/\jb s=true)\/(op=3/\v=v0/\s=[]/\ ∃ a,l=[a]/\eV a=true) \/
    (op=16/\v=v0/\s=[]/\ ∃ a b c,l=[a,b,c]/\eV a=true/\eV b=true/\eV c=true) \/
    (4<=op/\op<=15/\v=v0/\s=[]/\1<=(ey op).level/\(ey op).level<=5/\eU op=(ey op).level/\(ey op).op=op/\(ey op) ∈ kr/\ ∃ a b,l=[a,b]/\eV a=true/\eV b=true):=by
 simp only[eV,aD,au]at h;obtain⟨h1,h2⟩:=h;by_cases o1:op=1
 ·left;rw[aB o1]at h2;simp only[aD,au,dD]at h2;have:lp op=0:=by unfold lp;rw[if_pos (.inl o1)]
  exact⟨o1,eP.1 ae,h2.1.1,h2.1.2,h2.2⟩
 rw[aq o1]at h2;by_cases o2:op=2
 ·right;left;rw[aB o2]at h2;simp only[aD,au]at h2;have:lp op=0:=by unfold lp;rw[if_pos (.inr o2)]
  exact⟨o2,eP.1 ae,h2.1,h2.2⟩
 rw[aq o2]at h2;simp only[aD,au]at h2;obtain⟨⟨h3,h4⟩,h5⟩:=h2;by_cases o3:op=3
 ·right;right;left;have:lp op=1:=by unfold lp;rw[if_neg ae,if_pos o3]
  match l,h1,h5 with
  | [a],_,h5=>simp only[uQ,Bool.and_true]at h5;exact⟨o3,h3,h4,a,rfl,h5⟩
  | [],h1,_=>simp at h1;omega
  | _::_::_,h1,_=>simp at h1;omega
 by_cases o4:op=16
 ·right;right;right;left;have:lp op=3:=by unfold lp;rw[if_neg ae,if_neg o3,if_pos o4]
  match l,h1,h5 with
  | [a,b,c],_,h5=>simp only[uQ,Bool.and_true,aD]at h5;exact⟨o4,h3,h4,a,b,c,rfl,h5.1,h5.2.1,h5.2.2⟩
  | [],h1,_=>simp at h1;omega
  | [_],h1,_=>simp at h1;omega
  | [_,_],h1,_=>simp at h1;omega
  | _::_::_::_::_,h1,_=>simp at h1;omega
 right;right;right;right;have hc:lp op=if 0<(ey op).level then 2 else -1:=by unfold lp;rw[if_neg ae,if_neg o3,if_neg o4]
 have hlv:0<(ey op).level:=by
  by_cases h:0<(ey op).level
  ·exact h
  rw[aq h]at hc;omega
 rw[aB hlv]at hc;have Us:eU op=(ey op).level:=by unfold eU;rw[if_neg o4,if_neg o3,if_neg ae]
 have hf:(ey op).op=op/\ey op ∈ kr:=by
  unfold ey at hlv |-;cases hq:kr.find? (fun b=>b.op==op)with
  | none=>rw[hq]at hlv;simp at hlv
  | some b =>
    have h1:=gk hq;exact⟨by simpa using h1,gC hq⟩
 have hb:4<=op/\op<=15/\(ey op).level<=5:=by
  obtain⟨q1,q2⟩:=hf;generalize ey op=b at q1 q2;simp only[kr,fj,eH,or_false]at q2;rcases q2 with rfl|rfl|rfl|rfl|rfl|rfl|rfl|rfl|rfl|rfl|rfl|rfl<;>(dsimp only at q1 |-;omega)
 match l,h1,h5 with
 | [a,b],_,h5=>simp only[uQ,Bool.and_true,aD]at h5;exact⟨hb.1,hb.2.1,h3,h4,ae,hb.2.2,Us,hf.1,hf.2,a,b,rfl,h5.1,h5.2⟩
 | [],h1,_=>simp at h1;omega
 | [_],h1,_=>simp at h1;omega
 | _::_::_::_,h1,_=>simp at h1;omega
def CO{x:Expr}(h:eV x=true): 0<=eU x.op:=by
 obtain⟨op,v,s,l⟩:=x;rcases uu h with⟨rfl,_⟩|⟨rfl,_⟩|⟨rfl,_⟩|⟨rfl,_⟩|⟨_,_,_,_,h1,_,h2,_⟩
 ·show 0<=eU 1;decide
 ·show 0<=eU 2;decide
 ·show 0<=eU 3;decide
 ·show 0<=eU 16;decide
 show 0<=eU op;omega
def HO{x:Expr}{lv:Int}(h:¬ eU x.op<lv): kJ x lv=fc x:=by unfold kJ mP;exact if_neg h
def Py{x:Expr}{lv:Int}(h:eU x.op<lv): kJ x lv=40::(fc x++[41]):=by unfold kJ mP;exact if_pos h
def W7{s:bj}(h:jb s=true): s.length<=16:=by
 simp only[jb,aD,au]at h;exact h.1.2
def Ut(x:Expr): eV x=true->jN x->(fc x).length<=110*gW x:=by
 induction x using Expr.ind with
 | h op v s l ih =>
   intro hr hx;simp only[jN]at hx;obtain⟨_,_,Sx,WI,hl⟩:=hx
   have key:∀ y ∈ l,eV y=true-> ∀ lvl,(mP (eU y.op,fc y) lvl).length<=110*gW y+2:=fun y hy hry lvl=>by
    have:=ih y hy hry (KH hl hy);have:=Jw (eU y.op,fc y) lvl;dsimp only at this;omega
   have hsg:=Px op;rcases uu hr with⟨rfl,rfl,rfl,h1,_⟩|⟨rfl,rfl,rfl,h1⟩|⟨rfl,rfl,rfl,a,rfl,ha⟩|⟨rfl,rfl,rfl,a,b,c,rfl,ha,hb,hc⟩|⟨o1,o2,rfl,rfl,_,_,_,_,_,a,b,rfl,ha,hb⟩
   ·have:=W6 v Sx WI h1;simp only[fc,sy,if_true,gW];omega
   ·have:=W7 h1;simp[fc,sy,gW];omega
   ·have:=key a aT ha 6;simp[fc,uU,sy,gW,mo];omega
   ·have k1:=key a aT ha 0;have k2:=key b aT hb 0;have k3:=key c aT hc 0;simp[fc,uU,sy,gW,mo,rC,pW,xD];omega
   have k1:=key a aT ha (if(ey op).level=3 then 4 else(ey op).level);have k2:=key b aT hb ((ey op).level+1)
   have:fc (.mk op v0 [] [a,b])=mP (eU a.op,fc a) (if(ey op).level=3 then 4 else(ey op).level)++[32]++(ey op).sign++[32]++mP (eU b.op,fc b) ((ey op).level+1):=by
    simp only[fc,uU,sy];rw[aq ae,aq ae,aq ae,aq ae];rfl
   rw[this];simp only[aG,aE,a_,gW,mo];omega
def o9(x:Expr): Bool:=decide (200<(fc x).length)
def yV(x:Expr): bj × Int:=if eV x=false then([],2)else if 12<lD x then([],12)else if o9 x=true then([],5)else (fc x,0)
def ZD{x:Expr}(hr:eV x=true): kJ x 0=fc x:=by
 have:=CO hr;exact HO ae
abbrev TB: TypeId:=268
abbrev TU: TypeId:=5
def nT(T:TypeId)(σ : ai)(l:Nat)(s:bj): Prop:= ∃ p v,σ[l]? = some (.bH (some T) [p,v])/\(p = .ew\/p = .ref l 0) /\
 ((s=[]/\v = .aP)\/(s≠[]/\ ∃ k,k≠l/\v = .own E1 k s.length 0 s.length/\σ[k]? = some (.bW (some TU) E1 (jH s))))
def jz(l:Nat)(σ σ':ai): Prop:=σ.length<=σ'.length/\ ∀ j o,σ[j]? = some o->j≠l->(∀ T xs,o≠ .bW (some T) E1 xs)->σ'[j]? = some o
def jz.refl(l:Nat)(σ : ai): jz l σ σ:=⟨aV _,fun _ _ h _ _=>h⟩
def jq{σ : ai}{l:Nat}{o:bG}(h : σ[l]? = some o): l < σ.length:=(aK.1 h).1
def ZE : ∃ fn, Tryz.prog.funcs[313]? = some fn ∧ (fn.name == "runtime.NumGoroutine") = false ∧ fn.body.isNone = true ∧ Extern.findNext fn = none ∧ Extern.find fn = some Extern.AbiNoEscape.same :=
 ⟨_,Tryz.func313,b_,b_,b_,b_⟩
def Es(T:TypeId): Prop:=liesAt Tryz.prog Tryz.prog.depth T (2 / Tryz.prog.cellsOf T) 0 TB 1=true
def AB: Es TB:=by unfold Es;kernel_rfl
def Builder_copyCheck {T : TypeId} (hT : Es T) (σ : ai) (l : Nat) (p v : AV) (h : σ[l]? = some (.bH (some T) [p, v])) (hp : p = .ew \/ p = .ref l 0) :
    cV aM 232 [.ref l 0] σ fun o σ'=>o = .ret (.bg [])/\σ' = σ.set l (.bH (some T) [.ref l 0,v]):=by
 have r8 : σ.set l (.bH (some T) [.ref l 0,v]) = σ\/p = .ew:=by
  rcases hp with rfl|rfl
  ·exact .inr rfl
  left;apply List.ext_getElem?;intro k;by_cases e:k=l
  ·subst e;rw[bI (jq h)];exact h.symm
  rw[aI (Ne.symm e)]
 refine tE.go ?_;unfold iC;intro Q aX aY aZ;rcases hp with rfl|rfl
 ·repeat' first|refine fy h ?_|refine aQ ?_|refine aiM h aT ?_|refine ab2 ZE ?_|refine aiN h hT ?_|refine aR ?_ ?_<;>intro hw<;>try omega|fail
  exact⟨by trivial,by trivial⟩
 rcases r8 with r8|r8
 ·repeat' first|refine fy h ?_|refine aQ ?_|refine aiO h ?_|refine aR ?_ ?_<;>intro hw<;>try omega|fail
  exact⟨rfl,r8.symm⟩
 ·cases r8
def Builder_Len{T:TypeId}(σ : ai)(l:Nat)(s:bj)(h:nT T σ l s): cV aM 151 [.ref l 0] σ fun o σ'=>o = .ret (I s.length)/\σ' = σ:=by
 obtain⟨p,v,h1,h2,h3⟩:=h;refine zz.go ?_;unfold iC;intro Q aX aY aZ;rcases h3 with⟨rfl,rfl⟩|⟨h3,k,h4,rfl,h5⟩
 ·repeat' first|refine fy h1 ?_|refine aQ ?_|refine aR ?_ ?_<;>intro hw<;>try omega|fail
  exact⟨rfl,trivial⟩
 repeat' first|refine fy h1 ?_|refine aQ ?_|refine aR ?_ ?_<;>intro hw<;>try omega|fail
 exact⟨rfl,trivial⟩
def Builder_WriteString {T : TypeId} (hT : Es T) (σ : ai) (l : Nat) (s t : bj) (h : nT T σ l s) (hlen : s.length + t.length <= 2^38) :
    cV aM 150 [.ref l 0,.str t] σ fun o σ'=>o = .ret (.bg [I t.length,.eG])/\nT T σ' l (s++t)/\jz l σ σ':=by
 obtain⟨p,v,h1,h2,h3⟩:=h;have hl:=jq h1;refine sn.go ?_;unfold iC;intro Q aX aY aZ;have gQ:=Builder_copyCheck hT σ l p v h1 h2;have qT:(σ.set l (.bH (some T) [.ref l 0,v]))[l]? = some (.bH (some T) [.ref l 0,v]):=by simp[hl]
 have beside:∀ (o:bG),jz l σ (σ.set l o):=fun o=>⟨aT,fun j o' hj hne _=>by rw[aI (Ne.symm hne)];exact hj⟩;rcases h3 with⟨rfl,rfl⟩|⟨h3,k,h4,rfl,h5⟩
 ·cases t with
  | nil =>
    repeat' first|refine fy qT ?_|refine aQ ?_|with_reducible refine cW gQ ?_|refine aR ?_ ?_<;>intro hw<;>try omega|fail
    rintro o s ⟨rfl,rfl⟩;repeat' first|simp (disch:=omega) only[go_sem,aX,aY,aZ,qT,iE]|refine aQ ?_|refine aR ?_ ?_<;>intro hw<;>try omega|fail
    exact⟨rfl,⟨_,_,qT,.inr rfl,.inl ⟨rfl,rfl⟩⟩,beside _⟩
  | cons c t =>
    simp only[a_,aE]at hlen;repeat' first|refine fy qT ?_|refine aQ ?_|with_reducible refine cW gQ ?_|refine aR ?_ ?_<;>intro hw<;>try omega|fail
    rintro o s ⟨rfl,rfl⟩
    have BZ:∀ o,((σ.set l (.bH (some T) [.ref l 0,.aP]))++[o])[l]? = some (.bH (some T) [.ref l 0,.aP]):=fun o=>by
     rw[aO (by simpa using hl)];exact qT
    repeat' first|simp (disch:=omega) only[go_sem,aX,aY,aZ,qT,BZ,iE]|refine aQ ?_|refine aR ?_ ?_<;>intro hw<;>try omega|fail
    rw[List.set_append_left _ _ (by simpa using hl),iE];refine⟨rfl,⟨.ref l 0,.own E1 σ.length (t.length+1) 0 (t.length+1),?_,.inr rfl,.inr ⟨aT,σ.length,ae,aT,?_⟩⟩,aT,fun j o' hj hne _=>?_⟩
    ·rw[aO (by simpa using hl)];simp[hl]
    ·rw[bx aT];simp
    rw[aO (by simpa using jq hj),aI (Ne.symm hne)];exact hj
 have hk:=jq h5;have Sy:∀ o,(σ.set l o)[k]? = some (.bW (some TU) E1 (jH s)):=fun o=>by rw[aI (Ne.symm h4)];exact h5
 repeat' first|refine fy qT ?_|refine aQ ?_|with_reducible refine cW gQ ?_|refine aR ?_ ?_<;>intro hw<;>try omega|fail
 rintro o s' ⟨rfl,rfl⟩
 have BZ:∀ o,((σ.set l (.bH (some T) [.ref l 0,.own E1 k s.length 0 s.length])).set k o)[l]? = some (.bH (some T) [.ref l 0,.own E1 k s.length 0 s.length]):=fun o=>by
  rw[aI h4];exact qT
 repeat' first|simp (disch:=omega) only[go_sem,aX,aY,aZ,qT,BZ,Sy,iE]|refine aQ ?_|refine aR ?_ ?_<;>intro hw<;>try omega|fail
 refine⟨rfl,⟨.ref l 0,.own E1 k (s.length+t.length) 0 (s.length+t.length),?_,.inr rfl,.inr ⟨by simp[h3],k,h4,aT,?_⟩⟩,aT,fun j o' hj hne xE=>?_⟩
 ·simp[hl]
 ·rw[aI (Ne.symm h4)];simp[hk]
 have DO:j≠k:=fun e=>by subst e;rw[h5]at hj;cases hj;exact xE _ _ rfl
 rw[aI (Ne.symm hne),aI (Ne.symm DO),aI (Ne.symm hne)];exact hj
def Builder_String{T:TypeId}(σ : ai)(l:Nat)(s:bj)(h:nT T σ l s)(hs:s.length<=2^62): cV aM 152 [.ref l 0] σ fun o σ'=>o = .ret (.str s)/\jz l σ σ':=by
 obtain⟨p,v,h1,h2,h3⟩:=h;refine wu.go ?_;unfold iC;intro Q aX aY aZ;rcases h3 with⟨rfl,rfl⟩|⟨h3,k,h4,rfl,h5⟩
 ·repeat' first|refine fy h1 ?_|refine aQ ?_|refine aR ?_ ?_<;>intro hw<;>try omega|fail
  exact⟨rfl,.refl _ _⟩
 have h0:0<s.length:=List.length_pos_iff.2 h3;repeat' first|refine fy h1 ?_|refine aQ ?_|refine aiP h5 aT h0 ?_|refine aeh s h5 aT rfl h3 hs rfl ?_|refine aR ?_ ?_<;>intro hw<;>try omega|fail
 refine⟨rfl,aT,fun j o' hj hne xE=>?_⟩;have DO:j≠k:=fun e=>by subst e;rw[h5]at hj;cases hj;exact xE _ _ rfl
 rw[aI (Ne.symm DO)];exact hj
def nT.push{T:TypeId}{σ : ai}{l:Nat}{s:bj}(h:nT T σ l s)(ρ : ai): nT T (σ++ ρ) l s:=by
 obtain⟨p,v,h1,h2,h3⟩:=h;refine⟨p,v,by rw[aO (jq h1)];exact h1,h2,?_⟩;rcases h3 with h3|⟨h3,k,h4,h5,h6⟩
 ·exact .inl h3
 exact .inr ⟨h3,k,h4,h5,by rw[aO (jq h6)];exact h6⟩
def nT.lt{T:TypeId}{σ : ai}{l:Nat}{s:bj}(h:nT T σ l s): l < σ.length:=by
 obtain⟨p,v,h1,_⟩:=h;exact jq h1
def nT.ZG{T:TypeId}{σ : ai}{l q:Nat}{s u:bj}{i:Nat}(h:nT T σ l s)(hq : σ[q]? = some (.fZ u i))(o:bG): nT T (σ.set q o) l s:=by
 obtain⟨p,v,h1,h2,h3⟩:=h;have n1:q≠l:=fun e=>by subst e;rw[hq]at h1;cases h1
 refine⟨p,v,by rw[aI n1];exact h1,h2,?_⟩;rcases h3 with h3|⟨h3,k,h4,h5,h6⟩
 ·exact .inl h3
 have n2:q≠k:=fun e=>by subst e;rw[hq]at h6;cases h6
 exact .inr ⟨h3,k,h4,h5,by rw[aI n2];exact h6⟩
def jz.trans{l:Nat}{σ1 σ2 σ3:ai}(h:jz l σ1 σ2)(k:jz l σ2 σ3): jz l σ1 σ3 :=
 ⟨bS h.1 k.1,fun j o h1 h2 h3=>k.2 j o (h.2 j o h1 h2 h3) h2 h3⟩
def jz.qo{l:Nat}{σ ρ σ2:ai}(h:jz l (σ++ ρ) σ2): jz l σ σ2 :=
 ⟨bS aT h.1,fun j o h1 h2 h3=>h.2 j o (by rw[aO (jq h1)];exact h1) h2 h3⟩
def W8{n:Int}(h:0<=n)(h':n<=4294967295): dQ .u32 n=n:=by
 show IntKind.wrap .u32 n=n;simp[IntKind.wrap,IntKind.bits,IntKind.signed];omega
def Builder_WriteByte {T : TypeId} (hT : Es T) (σ : ai) (l : Nat) (s : bj) (c : UInt8) (k : Int) (hk : k = c.toNat) (h : nT T σ l s) (hlen : s.length <= 2^38) :
    cV aM 278 [.ref l 0,.int .u8 k] σ fun o σ'=>o = .ret .eG/\nT T σ' l (s++[c])/\jz l σ σ':=by
 subst hk;obtain⟨p,v,h1,h2,h3⟩:=h;have hl:=jq h1;refine tF.go ?_;unfold iC;intro Q aX aY aZ;have gQ:=Builder_copyCheck hT σ l p v h1 h2;have qT:(σ.set l (.bH (some T) [.ref l 0,v]))[l]? = some (.bH (some T) [.ref l 0,v]):=by simp[hl]
 rcases h3 with⟨rfl,rfl⟩|⟨h3,k,h4,rfl,h5⟩
 ·repeat' first|refine fy qT ?_|refine aQ ?_|with_reducible refine cW gQ ?_|refine aR ?_ ?_<;>intro hw<;>try omega|fail
  rintro o s' ⟨rfl,rfl⟩
  have BZ:∀ o,((σ.set l (.bH (some T) [.ref l 0,.aP]))++[o])[l]? = some (.bH (some T) [.ref l 0,.aP]):=fun o=>by
   rw[aO (by simpa using hl)];exact qT
  repeat' first|simp (disch:=omega) only[go_sem,aX,aY,aZ,qT,BZ,iE]|refine aQ ?_|refine aR ?_ ?_<;>intro hw<;>try omega|fail
  rw[List.set_append_left _ _ (by simpa using hl),iE];refine⟨rfl,⟨.ref l 0,.own E1 σ.length 1 0 1,?_,.inr rfl,.inr ⟨aT,σ.length,ae,aT,?_⟩⟩,aT,fun j o' hj hne _=>?_⟩
  ·rw[aO (by simpa using hl)];simp[hl]
  ·rw[bx aT];simp
  rw[aO (by simpa using jq hj),aI (Ne.symm hne)];exact hj
 have hk:=jq h5;have Sy:∀ o,(σ.set l o)[k]? = some (.bW (some TU) E1 (jH s)):=fun o=>by rw[aI (Ne.symm h4)];exact h5
 repeat' first|refine fy qT ?_|refine aQ ?_|with_reducible refine cW gQ ?_|refine aR ?_ ?_<;>intro hw<;>try omega|fail
 rintro o s' ⟨rfl,rfl⟩
 have BZ:∀ o,((σ.set l (.bH (some T) [.ref l 0,.own E1 k s.length 0 s.length])).set k o)[l]? = some (.bH (some T) [.ref l 0,.own E1 k s.length 0 s.length]):=fun o=>by
  rw[aI h4];exact qT
 repeat' first|simp (disch:=omega) only[go_sem,aX,aY,aZ,qT,BZ,Sy,iE]|refine aQ ?_|refine aR ?_ ?_<;>intro hw<;>try omega|fail
 refine⟨rfl,⟨.ref l 0,.own E1 k (s.length+1) 0 (s.length+1),?_,.inr rfl,.inr ⟨aT,k,h4,aT,?_⟩⟩,aT,fun j o' hj hne xE=>?_⟩
 ·simp[hl]
 ·rw[aI (Ne.symm h4)];simp[hk]
 have DO:j≠k:=fun e=>by subst e;rw[h5]at hj;cases hj;exact xE _ _ rfl
 rw[aI (Ne.symm hne),aI (Ne.symm DO),aI (Ne.symm hne)];exact hj
def KQ (σ : ai) (k : Nat) (s : bj) (c : UInt8) (hc : c.toNat < 128) (h : σ[k]? = some (.bW (some TU) E1 (jH s))) (hlen : s.length <= 2^38) :
    cV aM 440 [.own E1 k s.length 0 s.length,.int .i32 c.toNat] σ fun o σ'=>o = .ret (.own E1 k (s.length+1) 0 (s.length+1))/\σ' = σ.set k (.bW (some TU) E1 (jH (s++[c]))):=by
 refine vw.go ?_;unfold iC;intro Q aX aY aZ;repeat' first|simp (disch:=omega) only[go_sem,aX,aY,aZ,h,W8]|refine aQ ?_|refine aR ?_ ?_<;>intro hw<;>try omega|fail
 all_goals first|(refine⟨rfl,?_⟩;simp;done)|exact eu
def vO {T : TypeId} (hT : Es T) (σ : ai) (l : Nat) (s : bj) (c : UInt8) (hc : c.toNat < 128) (h : nT T σ l s) (hs : s ≠ []) (hlen : s.length <= 2^38) :
    cV aM 403 [.ref l 0,.int .i32 c.toNat] σ fun o σ'=>(∃ r,o = .ret r)/\nT T σ' l (s++[c])/\jz l σ σ':=by
 obtain⟨p,v,h1,h2,h3⟩:=h;have hl:=jq h1;refine tH.go ?_;unfold iC;intro Q aX aY aZ;have gQ:=Builder_copyCheck hT σ l p v h1 h2;have qT:(σ.set l (.bH (some T) [.ref l 0,v]))[l]? = some (.bH (some T) [.ref l 0,v]):=by simp[hl]
 rcases h3 with⟨rfl,rfl⟩|⟨h3,k,h4,rfl,h5⟩
 ·exact absurd rfl hs
 have hk:=jq h5;have Sy:∀ o,(σ.set l o)[k]? = some (.bW (some TU) E1 (jH s)):=fun o=>by rw[aI (Ne.symm h4)];exact h5
 repeat' first|refine fy qT ?_|refine aQ ?_|with_reducible refine cW gQ ?_|refine aR ?_ ?_<;>intro hw<;>try omega|fail
 rintro o s' ⟨rfl,rfl⟩;repeat' first|refine fy qT ?_|refine aQ ?_|with_reducible refine cW (KQ _ k s c hc (Sy _) hlen) ?_|refine aR ?_ ?_<;>intro hw<;>try omega|fail
 rintro o s' ⟨rfl,rfl⟩
 have BZ:∀ o,((σ.set l (.bH (some T) [.ref l 0,.own E1 k s.length 0 s.length])).set k o)[l]? = some (.bH (some T) [.ref l 0,.own E1 k s.length 0 s.length]):=fun o=>by
  rw[aI h4];exact qT
 have h1a:∀ o o',(((σ.set l (.bH (some T) [.ref l 0,.own E1 k s.length 0 s.length])).set k o).set l o')[l]? = some o':=fun o o'=>by
  rw[bI (by simpa using hl)]
 repeat' first|simp (disch:=omega) only[go_sem,aX,aY,aZ,qT,BZ,h1a,Sy,iE]|refine aQ ?_|refine aR ?_ ?_<;>intro hw<;>try omega|fail
 refine⟨⟨_,rfl⟩,⟨.ref l 0,.own E1 k (s.length+1) 0 (s.length+1),?_,.inr rfl,.inr ⟨aT,k,h4,aT,?_⟩⟩,aT,fun j o' hj hne xE=>?_⟩
 ·simp[hl]
 ·rw[aI (Ne.symm h4)];simp[hk]
 have DO:j≠k:=fun e=>by subst e;rw[h5]at hj;cases hj;exact xE _ _ rfl
 rw[aI (Ne.symm hne),aI (Ne.symm DO),aI (Ne.symm hne)];exact hj
def Rq(s:bj)(ha:∀ i,i<s.length->(s.getD i 0).toNat<128)(hs:s.length<=2^36): aA aM 357 [.str s] (.str (xC s)):=by
 refine bB KA ?_;intro Q aX aY aZ;have hb0:nT TB [.bH (some TB) [.ew,.aP]] 0 []:=⟨_,_,rfl,.inl rfl,.inl ⟨rfl,rfl⟩⟩;repeat' first|refine aQ ?_|with_reducible refine cW (Builder_WriteByte AB _ 0 _ 34 34 rfl hb0 aT) ?_|refine aR ?_ ?_<;>intro hw<;>try omega|fail
 rintro o σ ⟨rfl,vJ,_⟩;repeat' first|refine aQ ?_|refine aR ?_ ?_<;>intro hw<;>try omega|fail
 generalize hq : σ.length=q at *;with_reducible refine dA [5,1,9,11] (fun x:Nat × ai=>[]) (fun x=>x.2) (fun x=>x.1<=s.length/\nT TB x.2 0 (34::(s.take x.1).flatMap nS)/\x.2[q]? = some (.fZ s x.1)) (fun x=>s.length-x.1) (0,σ++[.fZ s 0]) ?_ ?_ ?_ ?_
 ·exact⟨cD _,by simpa using vJ.push _,by rw[<-hq];simp⟩
 ·rfl
 ·exact at_
 clear vJ hb0 hq;rintro⟨i,σ⟩ r ⟨h1,h2,h3⟩;dsimp only at h1 h2 h3;have hql:=Mx (s.take i);rw[dH]at hql;have L6:(34::(s.take i).flatMap nS).length<=2^37+1:=by rw[aE];omega
 by_cases hi:i<s.length
 ·have hai:=ha i hi;have ht:=Ur hi;have hb:=h2.ZG h3 (.fZ s (i+1));have hne:(34::(s.take i).flatMap nS:bj)≠[]:=aT;have h3':(σ.set q (.fZ s (i+1)))[q]? = some (.fZ s (i+1)):=by rw[bI (jq h3)]
  have hq0:q≠0:=fun e=>by
   obtain⟨p,v,k1,_⟩:=h2;rw[e,k1]at h3;cases h3
  generalize (s.take i).flatMap nS=acc at *;by_cases hc:(s.getD i 0).toNat=34\/(s.getD i 0).toNat=92
  ·rw[nS,aB hc]at ht;repeat' first|refine fy h3 ?_|refine aQ ?_|with_reducible refine cW (Builder_WriteByte AB _ 0 _ 92 92 rfl hb ae) ?_|refine aR ?_ ?_<;>intro hw<;>try omega|fail
   all_goals first
    | (rintro o σ1 ⟨rfl, vJ, fF⟩
       have h3a:=fF.2 q _ h3' hq0 (fun _ _=>by simp);repeat' first|refine aQ ?_|with_reducible refine cW (vO AB _ 0 _ (s.getD i 0) hai vJ aT (by simp only[aG,aE,a_];omega)) ?_|refine aR ?_ ?_<;>intro hw<;>try omega|fail
       rintro o σ2 ⟨⟨rr,rfl⟩,jw,kg⟩;repeat' first|refine aQ ?_|refine aR ?_ ?_<;>intro hw<;>try omega|fail
       refine⟨(i+1,σ2),⟨?_,?_,?_⟩,?_,rfl,fU,at_⟩
       ·dsimp only;omega
       ·dsimp only;rw[ht];simpa using jw
       ·exact kg.2 q _ h3a hq0 (fun _ _=>by simp)
       ·dsimp only;omega)
    | exact eu
  rw[nS,aq hc]at ht;repeat' first|refine fy h3 ?_|refine aQ ?_|with_reducible refine cW (vO AB _ 0 _ (s.getD i 0) hai hb hne ae) ?_|refine aR ?_ ?_<;>intro hw<;>try omega|fail
  all_goals first
   | (rintro o σ2 ⟨⟨rr, rfl⟩, jw, kg⟩
      repeat' first|refine aQ ?_|refine aR ?_ ?_<;>intro hw<;>try omega|fail
      refine⟨(i+1,σ2),⟨?_,?_,?_⟩,?_,rfl,fU,at_⟩
      ·dsimp only;omega
      ·dsimp only;rw[ht];simpa using jw
      ·exact kg.2 q _ h3' hq0 (fun _ _=>by simp)
      ·dsimp only;omega)
   | exact eu
 have R8:i=s.length:=ae;have yz:s.take i=s:=cM ae;rw[yz]at h2 L6;simp only[aE]at L6;repeat' first|refine fy h3 ?_|refine aQ ?_|with_reducible refine cW (Builder_WriteByte AB _ 0 _ 34 34 rfl h2 (by simp only[aE];omega)) ?_|refine aR ?_ ?_<;>intro hw<;>try omega|fail
 rintro o σ1 ⟨rfl,vJ,_⟩;repeat' first|refine aQ ?_|with_reducible refine cW (Builder_String _ 0 _ vJ (by simp only[aG,aE,a_];omega)) ?_|refine aR ?_ ?_<;>intro hw<;>try omega|fail
 rintro o σ2 ⟨rfl,_⟩;repeat' first|refine aQ ?_|refine aR ?_ ?_<;>intro hw<;>try omega|fail
 refine bu ?_ rfl;simp[xC]
def Pz{s:bj}(h:nN s=true): ∀ i,i<s.length->(s.getD i 0).toNat<128:=by
 intro i hi;simp only[nN,aD,bt]at h;have:=h.2 (s.getD i 0) (by rw[aj,aJ hi];exact c9 hi);rw[BO]at this;omega
def Uu(v:jC)(h0 : -9223372036854775808<=v.n)(h1:v.n<=9223372036854775807)(hr:gZ v=true): aA aM 279 [nL v] (.bg [.str (BY v),I 0]):=by
 obtain⟨k,n,s⟩:=v;dsimp only at h0 h1;have c1:=uo k n s h0 h1;rw[hr]at c1;simp only[nO,if_true]at c1;have c2:=strconv_Itoa n h0 h1
 have c3:k=2->aA aM 357 [.str s] (.str (xC s)):=fun hk=>by
  unfold gZ at hr;dsimp only at hr;rw[aq ae,aq ae,aB hk]at hr;simp only[aD]at hr;have hp:=hr.2;refine Rq s (Pz hp) ?_;simp only[nN,aD,au]at hp;omega
 have c4:=fun b=>strconv_FormatBool b;clear hr;have hS:BY ⟨k,n,s⟩=if k=1 then Lib.itoa n else if k=2 then xC s else if k=3 then(if n=1 then yS else uT)else Jn:=rfl
 rw[hS];clear hS;generalize Lib.itoa n=t1 at *;generalize xC s=t2 at *;simp only[nL];by_cases k2:k=2
 ·have c5:=c3 k2;clear c3;subst k2;refine bB CH ?_;intro Q aX aY aZ;repeat' first|refine aQ ?_|refine aR ?_ ?_<;>intro hw<;>try omega|fail
  all_goals (refine c6 ?_ rfl;simp)
 clear c3;refine bB CH ?_;intro Q aX aY aZ;repeat' first|refine aQ ?_|refine jS (c4 _) ?_|refine aR ?_ ?_<;>intro hw<;>try omega|fail
 all_goals (refine c6 ?_ rfl;simp_all[yS,uT,Jn])
abbrev TW: TypeId:=312
def oV: Es TW:=by unfold Es;kernel_rfl
def PA(x:Expr): aA aM 277 [br x] (I (eU x.op)):=by
 have hf:=zF x.op;have hS:eU x.op=if x.op=16 then 0 else if x.op=3 then 6 else if x.op=1\/x.op=2 then 7 else(ey x.op).level:=rfl
 rw[hS];clear hS;simp only[O_]at hf;generalize ey x.op=b at *;rw[bE];refine bB Ja ?_;intro Q aX aY aZ;repeat' first|refine aQ ?_|refine aR ?_ ?_<;>intro hw<;>try omega|fail
 all_goals (refine bu ?_ rfl;simp_all)
def aa2(x:Expr): Prop:= ∀(lv:Int) (σ : ai) (l:Nat) (s:bj),nT TW σ l s->s.length+(kJ x lv).length<=2^38 ->
 cV aM 187 [.ref l 0,.agg [I x.op,I x.v.kind,I x.v.n,.str x.v.s,.str x.s,.aH false EX (x.l.map br)],I lv] σ fun o σ'=>o = .ret (.bg [])/\nT TW σ' l (s++kJ x lv)/\jz l σ σ'
def Uv(x:Expr): eV x=true->jN x->aa2 x:=by
 induction x using Expr.ind with
 | h op v s l ih =>
   intro hr hx;have aez:=CO hr;have hL:=PA (.mk op v s l);rw[bE]at hL;simp only[jN]at hx;obtain⟨hs,hvs,Sx,WI,hl⟩:=hx;have GH:∀ y ∈ l,eV y=true->aa2 y:=fun y hy hry=>ih y hy hry (KH hl hy)
   have Uw:∀ (lv:Int) (σ : ai) (k:Nat) (t:bj),¬ eU op<lv->nT TW σ k t->t.length+(fc (.mk op v s l)).length<=2^38 ->
    cV aM 187 [.ref k 0,.agg [I op,I v.kind,I v.n,.str v.s,.str s,.aH false EX (l.map br)],I lv] σ fun o σ'=>o = .ret (.bg [])/\nT TW σ' k (t++fc (.mk op v s l))/\jz k σ σ':=by
    intro lv σ k t hlv hb hlen;have Dt:=hb.lt;have vJ:=fun o:bG=>hb.push [o];have su:∀ {σ':ai} {o:bG},jz k (σ++[o]) σ'->(∀ T xs,o≠ .bW (some T) E1 xs)->σ'[σ.length]? = some o:=fun fF xE=>fF.2 σ.length _ aT ae xE;have Jx:=hL;simp only[Expr.aa0,Expr.aei,Expr.aej,Expr.aek]at Jx;rcases uu hr with⟨rfl,rfl,rfl,h1,_⟩|⟨rfl,rfl,rfl,h1⟩|⟨rfl,rfl,rfl,a,rfl,ha⟩|⟨rfl,rfl,rfl,a,b,c,rfl,ha,hb',hc⟩|⟨o1,o2,rfl,rfl,W9,lv5,Us,_,_,a,b,rfl,ha,hb'⟩
    ·have ht:=Uu v Sx WI h1;have hW:fc (.mk 1 v [] [])=BY v:=by simp[fc,sy]
     rw[hW]at hlen |-;generalize BY v=tv at *;generalize eU 1=W9 at *;simp only[nL]at ht;simp only[fH]at Jx |-;refine iQ.go ?_;unfold iC;intro Q aX aY aZ;repeat' first|refine aQ ?_|with_reducible refine cW (Builder_WriteString oV _ k t tv (vJ _) ae) ?_|refine aR ?_ ?_<;>intro hw<;>try omega|fail
     all_goals first
      | (rintro o σ1 ⟨rfl, jw, fF⟩
         repeat' first|refine aQ ?_|refine aR ?_ ?_<;>intro hw<;>try omega|fail
         exact⟨rfl,jw,fF.qo⟩)
      | exact eu
    ·have hW:fc (.mk 2 v0 s [])=s:=by simp[fc,sy]
     rw[hW]at hlen |-;generalize eU 2=W9 at *;simp only[fH]at Jx |-;refine iQ.go ?_;unfold iC;intro Q aX aY aZ;repeat' first|refine aQ ?_|with_reducible refine cW (Builder_WriteString oV _ k t s (vJ _) ae) ?_|refine aR ?_ ?_<;>intro hw<;>try omega|fail
     all_goals first
      | (rintro o σ1 ⟨rfl, jw, fF⟩
         repeat' first|refine aQ ?_|refine aR ?_ ?_<;>intro hw<;>try omega|fail
         exact⟨rfl,jw,fF.qo⟩)
      | exact eu
    ·have pa:=GH a aT ha;have hW:fc (.mk 3 v0 [] [a])=45::kJ a 6:=by simp[fc,uU,sy,kJ]
     rw[hW,aE]at hlen;rw[hW];have pa:=pa 6;generalize kJ a 6=t1 at *;generalize eU 3=W9 at *;simp only[bN,fH,bE a]at Jx |-;refine iQ.go ?_;unfold iC;intro Q aX aY aZ;repeat' first|refine aQ ?_|with_reducible refine cW (Builder_WriteByte oV _ k t 45 45 rfl (vJ _) ae) ?_|refine aR ?_ ?_<;>intro hw<;>try omega|fail
     all_goals first
      | (rintro o σ1 ⟨rfl, jw, fF⟩
         have qz:=su fF (fun _ _=>by simp);repeat' first|refine fy qz ?_|refine aQ ?_|with_reducible refine cW (pa _ k _ jw (by simp only[aG,aE,a_];omega)) ?_|refine aR ?_ ?_<;>intro hw<;>try omega|fail
         rintro o σ2 ⟨rfl,xF,kg⟩;repeat' first|refine aQ ?_|refine aR ?_ ?_<;>intro hw<;>try omega|fail
         exact⟨rfl,by simpa using xF,(fF.trans kg).qo⟩)
      | exact eu
    ·have pa:=GH a aT ha 0;have pb:=GH b aT hb' 0;have pc:=GH c aT hc 0;have hW:fc (.mk 16 v0 [] [a,b,c])=rC++kJ a 0++pW++kJ b 0++xD++kJ c 0:=by simp[fc,uU,sy,kJ]
     rw[hW]at hlen |-;simp only[aG,rC,pW,xD,aE,a_]at hlen;generalize kJ a 0=t1 at *;generalize kJ b 0=t2 at *;generalize kJ c 0=t3 at *;generalize eU 16=W9 at *;simp only[bN,fH,bE a,bE b,bE c]at Jx |-;refine iQ.go ?_;unfold iC;intro Q aX aY aZ;repeat' first|refine aQ ?_|refine aR ?_ ?_<;>intro hw<;>try omega|fail
     all_goals try (exfalso;omega)
     obtain⟨C,hC⟩:∃ C,C=bG.cells [I 16,I v0.kind,I v0.n,.str v0.s,.str [],.aH false EX [.agg [I a.op,I a.v.kind,I a.v.n,.str a.v.s,.str a.s,.aH false EX (a.l.map br)],.agg [I b.op,I b.v.kind,I b.v.n,.str b.v.s,.str b.s,.aH false EX (b.l.map br)],.agg [I c.op,I c.v.kind,I c.v.n,.str c.v.s,.str c.s,.aH false EX (c.l.map br)]]]:=⟨_,rfl⟩;have hCn:∀ T xs,C≠ .bW (some T) E1 xs:=by rw[hC];intro T xs h;cases h
     with_reducible refine dA [8,2,98,17] (fun x:Int × ai=>[(98,I x.1)]) (fun x=>x.2) (fun x=>(x.1=0/\nT TW x.2 k t\/x.1=1/\nT TW x.2 k (t++(rC++t1))\/x.1=2/\nT TW x.2 k (t++(rC++t1++pW++t2))\/x.1=3/\nT TW x.2 k (t++(rC++t1++pW++t2++xD++t3)))/\jz k σ x.2/\x.2[σ.length]? = some C) (fun x=>(3-x.1).toNat) (0,σ++[C]) ?_ ?_ ?_ ?_
     ·exact⟨.inl ⟨rfl,hb.push _⟩,(jz.refl k (σ++[C])).qo,aT⟩
     ·rw[hC]
     ·exact at_
     rintro⟨i,σ1⟩ r ⟨hi,fF,qz⟩;dsimp only at hi fF qz;have keep:∀ {σ2:ai},jz k σ1 σ2->σ2[σ.length]? = some C:=fun h=>h.2 _ _ qz ae hCn;rcases hi with⟨rfl,IK⟩|⟨rfl,IK⟩|⟨rfl,IK⟩|⟨rfl,IK⟩
     ·repeat' first|simp (disch:=omega) only[go_sem,aX,aY,aZ,show(0:Int).toNat=0 from rfl]|refine aQ ?_|with_reducible refine cW (Builder_WriteString oV _ k _ _ IK (by simp;omega)) ?_|refine aR ?_ ?_<;>intro hw<;>try omega|fail
      all_goals first
       | (rintro o σ2 ⟨rfl, jw, kg⟩
          have qM:=keep kg;rw[hC]at qM;repeat' first|simp (disch:=omega) only[go_sem,aX,aY,aZ,qM,show(0:Int).toNat=0 from rfl]|refine aQ ?_|with_reducible refine cW (pa _ k _ jw (by simp[rC];omega)) ?_|refine aR ?_ ?_<;>intro hw<;>try omega|fail
          rintro o σ3 ⟨rfl,xF,sB⟩;repeat' first|refine aQ ?_|refine aR ?_ ?_<;>intro hw<;>try omega|fail
          refine⟨(1,σ3),⟨.inr (.inl ⟨rfl,by simpa[rC]using xF⟩),fF.trans (kg.trans sB),keep (kg.trans sB)⟩,(by dsimp only;decide),rfl,fU,at_⟩)
       | exact eu
     ·repeat' first|simp (disch:=omega) only[go_sem,aX,aY,aZ,Int.toNat_one]|refine aQ ?_|with_reducible refine cW (Builder_WriteString oV _ k _ _ IK (by simp[rC];omega)) ?_|refine aR ?_ ?_<;>intro hw<;>try omega|fail
      all_goals first
       | (rintro o σ2 ⟨rfl, jw, kg⟩
          have qM:=keep kg;rw[hC]at qM;repeat' first|simp (disch:=omega) only[go_sem,aX,aY,aZ,qM,Int.toNat_one]|refine aQ ?_|with_reducible refine cW (pb _ k _ jw (by simp[rC,pW];omega)) ?_|refine aR ?_ ?_<;>intro hw<;>try omega|fail
          rintro o σ3 ⟨rfl,xF,sB⟩;repeat' first|refine aQ ?_|refine aR ?_ ?_<;>intro hw<;>try omega|fail
          refine⟨(2,σ3),⟨.inr (.inr (.inl ⟨rfl,by simpa[rC,pW]using xF⟩)),fF.trans (kg.trans sB),keep (kg.trans sB)⟩,(by dsimp only;decide),rfl,fU,at_⟩)
       | exact eu
     ·repeat' first|simp (disch:=omega) only[go_sem,aX,aY,aZ,show(2:Int).toNat=2 from rfl]|refine aQ ?_|with_reducible refine cW (Builder_WriteString oV _ k _ _ IK (by simp[rC,pW];omega)) ?_|refine aR ?_ ?_<;>intro hw<;>try omega|fail
      all_goals first
       | (rintro o σ2 ⟨rfl, jw, kg⟩
          have qM:=keep kg;rw[hC]at qM;repeat' first|simp (disch:=omega) only[go_sem,aX,aY,aZ,qM,show(2:Int).toNat=2 from rfl]|refine aQ ?_|with_reducible refine cW (pc _ k _ jw (by simp[rC,pW,xD];omega)) ?_|refine aR ?_ ?_<;>intro hw<;>try omega|fail
          rintro o σ3 ⟨rfl,xF,sB⟩;repeat' first|refine aQ ?_|refine aR ?_ ?_<;>intro hw<;>try omega|fail
          refine⟨(3,σ3),⟨.inr (.inr (.inr ⟨rfl,by simpa[rC,pW,xD]using xF⟩)),fF.trans (kg.trans sB),keep (kg.trans sB)⟩,(by dsimp only;decide),rfl,fU,at_⟩)
       | exact eu
     repeat' first|refine aQ ?_|refine aR ?_ ?_<;>intro hw<;>try omega|fail
     all_goals first
      | exact⟨rfl,IK,fF⟩
      | exact eu
    have pa:=GH a aT ha;have pb:=GH b aT hb';have hf:=zF op;have hsl:=Px op
    have hW:fc (.mk op v0 [] [a,b])=kJ a (if(ey op).level=3 then 4 else(ey op).level)++[32]++(ey op).sign++[32]++kJ b ((ey op).level+1):=by
     simp only[fc,uU,sy];rw[aq ae,aq ae,aq ae,aq ae];rfl
    rw[hW]at hlen |-;rw[Us]at Jx hlv;clear hW Us aez hL;have hg1:∀ {σ':ai} {o o':bG},jz k (σ++[o]++[o']) σ'->(∀ T xs,o≠ .bW (some T) E1 xs)->σ'[σ.length]? = some o:=fun fF xE=>fF.2 σ.length _ aT ae xE;have hg2:∀ {σ':ai} {o o':bG},jz k (σ++[o]++[o']) σ'->(∀ T xs,o'≠ .bW (some T) E1 xs)->σ'[σ.length+1]? = some o':=fun fF xE=>fF.2 (σ.length+1) _ aT ae xE;simp only[aG,aE,a_]at hlen;simp only[O_]at hf;generalize hBB:ey op=B at *;obtain⟨bop,sg,lvl⟩:=B;dsimp only at *;simp only[bN,fH,bE a,bE b]at Jx |-;by_cases h3:lvl=3
    ·subst h3;simp only[if_true]at hlen |-;have pa:=pa 4;have pb:=pb (3+1);generalize kJ a 4=t1 at *;generalize kJ b (3+1)=t2 at *;simp only[Int.reduceAdd]at pb;refine iQ.go ?_;unfold iC;intro Q aX aY aZ;repeat' first|simp (disch:=omega) only[go_sem,aX,aY,aZ,Int.reduceAdd]|refine aQ ?_|with_reducible refine cW (pa _ k t ((hb.push _).push _) ae) ?_|refine aR ?_ ?_<;>intro hw<;>try omega|fail
     all_goals first
      | (rintro o σ1 ⟨rfl, jw, fF⟩
         have qz:=hg1 fF (fun _ _=>by simp);have qM:=hg2 fF (fun _ _=>by simp);repeat' first|refine fy (zA qz qM) ?_|refine aQ ?_|with_reducible refine cW (Builder_WriteString oV _ k _ _ jw (by simp only[aG,aE,a_];omega)) ?_|refine aR ?_ ?_<;>intro hw<;>try omega|fail
         rintro o σ2 ⟨rfl,xF,kg⟩;have qz:=kg.2 _ _ qz ae (fun _ _=>by simp);have qM:=kg.2 _ _ qM ae (fun _ _=>by simp);repeat' first|simp (disch:=omega) only[go_sem,aX,aY,aZ,qz,qM,Int.toNat_one,Int.reduceAdd]|refine aQ ?_|with_reducible refine cW (pb _ k _ xF (by simp only[aG,aE,a_];omega)) ?_|refine aR ?_ ?_<;>intro hw<;>try omega|fail
         rintro o σ3 ⟨rfl,Sz,sB⟩;repeat' first|refine aQ ?_|refine aR ?_ ?_<;>intro hw<;>try omega|fail
         exact⟨rfl,by simpa using Sz,((fF.trans kg).trans sB).qo.qo⟩)
      | exact eu
    simp only[aq h3]at hlen |-;have pa:=pa lvl;have pb:=pb (lvl+1);generalize kJ a lvl=t1 at *;generalize kJ b (lvl+1)=t2 at *;refine iQ.go ?_;unfold iC;intro Q aX aY aZ;repeat' first|simp (disch:=omega) only[go_sem,aX,aY,aZ,Int.reduceAdd]|refine aQ ?_|with_reducible refine cW (pa _ k t ((hb.push _).push _) ae) ?_|refine aR ?_ ?_<;>intro hw<;>try omega|fail
    all_goals first
     | (rintro o σ1 ⟨rfl, jw, fF⟩
        have qz:=hg1 fF (fun _ _=>by simp);have qM:=hg2 fF (fun _ _=>by simp);repeat' first|refine fy (zA qz qM) ?_|refine aQ ?_|with_reducible refine cW (Builder_WriteString oV _ k _ _ jw (by simp only[aG,aE,a_];omega)) ?_|refine aR ?_ ?_<;>intro hw<;>try omega|fail
        rintro o σ2 ⟨rfl,xF,kg⟩;have qz:=kg.2 _ _ qz ae (fun _ _=>by simp);have qM:=kg.2 _ _ qM ae (fun _ _=>by simp);repeat' first|simp (disch:=omega) only[go_sem,aX,aY,aZ,qz,qM,Int.toNat_one,Int.reduceAdd]|refine aQ ?_|with_reducible refine cW (pb _ k _ xF (by simp only[aG,aE,a_];omega)) ?_|refine aR ?_ ?_<;>intro hw<;>try omega|fail
        rintro o σ3 ⟨rfl,Sz,sB⟩;repeat' first|refine aQ ?_|refine aR ?_ ?_<;>intro hw<;>try omega|fail
        exact⟨rfl,by simpa using Sz,((fF.trans kg).trans sB).qo.qo⟩)
     | exact eu
   intro lv σ k t hb hlen;by_cases hlv:eU op<lv
   ·rw[Py (x:= .mk op v s l) hlv]at hlen |-;rw[aE,aG,aE,a_]at hlen;have Dt:=hb.lt;have su:∀ {σ':ai} {o:bG},jz k (σ++[o]) σ'->(∀ T xs,o≠ .bW (some T) E1 xs)->σ'[σ.length]? = some o:=fun fF xE=>fF.2 σ.length _ aT ae xE;have sA:=fun σ t h1 h2=>Uw 0 σ k t (by show ¬ eU op<0;have:0<=eU op:=aez;omega) h1 h2;clear Uw;generalize fc (.mk op v s l)=w at *;simp only[Expr.aa0,Expr.aei,Expr.aej,Expr.aek]at hL |-;generalize eU op=W9 at *;refine iQ.go ?_;unfold iC;intro Q aX aY aZ;repeat' first|refine aQ ?_|with_reducible refine cW (Builder_WriteByte oV _ k t 40 40 rfl (hb.push _) ae) ?_|refine aR ?_ ?_<;>intro hw<;>try omega|fail
    all_goals first
     | (rintro o σ1 ⟨rfl, jw, fF⟩
        have qz:=su fF (fun _ _=>by simp);repeat' first|refine fy qz ?_|refine aQ ?_|with_reducible refine cW (sA _ _ jw (by simp only[aG,aE,a_];omega)) ?_|refine aR ?_ ?_<;>intro hw<;>try omega|fail
        rintro o σ2 ⟨rfl,xF,kg⟩;repeat' first|refine aQ ?_|with_reducible refine cW (Builder_WriteByte oV _ k _ 41 41 rfl xF (by simp only[aG,aE,a_];omega)) ?_|refine aR ?_ ?_<;>intro hw<;>try omega|fail
        rintro o σ3 ⟨rfl,Sz,sB⟩;repeat' first|refine aQ ?_|refine aR ?_ ?_<;>intro hw<;>try omega|fail
        exact⟨rfl,by simpa using Sz,((fF.trans kg).trans sB).qo⟩)
     | exact eu
   rw[HO (x:= .mk op v s l) hlv]at hlen |-;exact Uw lv σ k t hlv hb hlen
def GQ(x:Expr)(hx:jN x)(hz:gW x<=2^30): aA aM 114 [br x] (.bg [.str (yV x).1,I (yV x).2]):=by
 have h1:=Ef x hx ae;have h2:=zG x ae;have h3:=fun hr=>Uv x hr hx 0;have hT:yV x=if eV x=false then([],2)else if 12<lD x then([],12)else if o9 x=true then([],5)else (fc x,0):=rfl
 rw[hT];unfold o9;cases hr:eV x with
 | false =>
   rw[aB rfl];rw[hr]at h1;rw[bE]at h1 |-;refine bB Ak ?_;intro Q aX aY aZ;repeat' first|refine aQ ?_|refine aR ?_ ?_<;>intro hw<;>try omega|fail
   all_goals exact c6 rfl rfl
 | true =>
   have h3:=h3 hr;rw[ZD hr]at h3;have hlen:=Ut x hr hx;rw[aq aT];rw[hr]at h1;generalize fc x=t at *;generalize lD x=d at *;rw[bE]at h1 h2 |-;have hb0:∀ C:bG,nT TW [C,.bH (some TW) [.ew,.aP]] 1 []:=fun C=>⟨_,_,rfl,.inl rfl,.inl ⟨rfl,rfl⟩⟩;refine bB Ak ?_;intro Q aX aY aZ;by_cases hd:12<d
   ·simp only[aB hd]at aX aY aZ;repeat' first|refine aQ ?_|refine aR ?_ ?_<;>intro hw<;>try omega|fail
    all_goals first|exact c6 rfl rfl|exact eu
   simp only[aq hd,au]at aX aY aZ;have aiU:t.length<=2^38:=ae;repeat' first|refine aQ ?_|with_reducible refine cW (h3 _ 1 [] (hb0 _) (by simpa using aiU)) ?_|refine aR ?_ ?_<;>intro hw<;>try omega|fail
   all_goals first
    | (rintro o σ1 ⟨rfl, jw, _⟩
       try rw[gj]at jw
       repeat' first|refine aQ ?_|with_reducible refine cW (Builder_Len _ 1 _ jw) ?_|refine aR ?_ ?_<;>intro hw<;>try omega|fail
       rintro o s' ⟨rfl,rfl⟩;by_cases hb:200<t.length
       ·simp only[aB hb]at aX aY aZ;repeat' first|refine aQ ?_|refine aR ?_ ?_<;>intro hw<;>try omega|fail
        all_goals first|exact c6 rfl rfl|exact eu
       ·simp only[aq hb]at aX aY aZ;repeat' first|refine aQ ?_|with_reducible refine cW (Builder_String _ 1 _ jw ae) ?_|refine aR ?_ ?_<;>intro hw<;>try omega|fail
        all_goals first
         | (rintro o σ2 ⟨rfl, _⟩
            repeat' first|refine aQ ?_|refine aR ?_ ?_<;>intro hw<;>try omega|fail
            exact c6 rfl rfl)
         | exact eu)
    | exact eu
def W_(t:Test): bj:=if t.lo then [93]else [91]
def Xa(t:Test): bj:=if t.hi then [91]else [93]
def testW(t:Test): bj:=if t.kind=1 then kJ t.a 4 else if t.kind=6 then W_ t++kJ t.a 4++[46,46]++kJ t.b 4++Xa t else lG t.kind++[32]++kJ t.a 4
def qI(t:Test): Bool:=o9 t.a ||(decide (t.kind=6) && o9 t.b)
def zM: bj:=[44,32]
def Jy(l:List Test): bj:=Lib.join (l.map testW) zM
def KR(n:Bool)(s:bj): bj:=if n then [110,111,116,40]++s++[41]else s
def FP(c:Cell): bj × Int:=if nR c=false then([],2)else if c.any=true then([45],0)else if c.tests.any qI=true then([],5)
 else if 200<(KR c.neg (Jy c.tests)).length then([],5)else (KR c.neg (Jy c.tests),0)
def Et(t:Test): Prop:=(jN t.a/\gW t.a<=2^30)/\jN t.b/\gW t.b<=2^30
def zN(c:Cell): Prop:=c.tests.length<=2^30/\ ∀ t ∈ c.tests,Et t
def zN.ok{c:Cell}(h:zN c): Ms c:=⟨by have:=h.1;omega,fun t ht=>by
 obtain⟨⟨a,b⟩,c,d⟩:=h.2 t ht;exact⟨⟨a,ae⟩,c,ae⟩⟩
def aeA{x:Expr}(h:eV x=true): eU x.op<4↔8<=x.op/\x.op<=16:=by
 obtain⟨op,v,s,l⟩:=x;rcases uu h with⟨rfl,_⟩|⟨rfl,_⟩|⟨rfl,_⟩|⟨rfl,_⟩|⟨_,_,_,_,_,_,h1,h2,h3,_⟩
 ·show eU 1<4↔8<=(1:Int)/\(1:Int)<=16;decide
 ·show eU 2<4↔8<=(2:Int)/\(2:Int)<=16;decide
 ·show eU 3<4↔8<=(3:Int)/\(3:Int)<=16;decide
 ·show eU 16<4↔8<=(16:Int)/\(16:Int)<=16;decide
 show eU op<4↔8<=op/\op<=16;rw[h1];generalize ey op=b at *;simp only[kr,fj,eH,or_false]at h3;rcases h3 with rfl|rfl|rfl|rfl|rfl|rfl|rfl|rfl|rfl|rfl|rfl|rfl<;>(dsimp only at h2 |-;omega)
def Xb{x:Expr}(h:oz x=true): eV x=true/\yV x=if o9 x=true then([],5)else (fc x,0):=by
 simp only[oz,aD,au]at h;refine⟨h.1,?_⟩;unfold yV;rw[aq (by simp[h.1]),aq ae]
def uV{x:Expr}(h:o9 x=false)(lv:Int): (kJ x lv).length<=202:=by
 simp only[o9,decide_eq_false_iff_not]at h;have:=Jw (eU x.op,fc x) lv;dsimp only at this;unfold kJ;omega
def Jz(x:Expr)(hp:oz x=true)(hx:jN x)(hz:gW x<=2^30): aA aM 271 [br x] (.bg [.str (if o9 x=true then []else kJ x 4),I (if o9 x=true then 5 else 0)]):=by
 obtain⟨hr,ht⟩:=Xb hp;have h1:=GQ x hx hz;have h4:=aeA hr;have Xc:=fun h=>uV (x:=x) h 4;rw[ht]at h1;cases hb:o9 x with
 | true =>
   rw[hb]at h1;simp only[if_true]at h1 |-;rw[bE]at h1 |-;refine bB vt ?_;intro Q aX aY aZ;repeat' first|refine aQ ?_|refine aR ?_ ?_<;>intro hw<;>try omega|fail
   all_goals exact c6 rfl rfl
 | false =>
   have Xc:=Xc hb;rw[hb]at h1;simp only[aN,if_false]at h1 |-;by_cases hl:eU x.op<4
   ·have ho:=h4.1 hl;rw[Py hl]at Xc |-;rw[aE,aG]at Xc;generalize fc x=t at *;rw[bE]at h1 |-;refine bB vt ?_;intro Q aX aY aZ;repeat' first|refine aQ ?_|refine aR ?_ ?_<;>intro hw<;>try omega|fail
    all_goals first|(refine c6 ?_ rfl;simp;done)|exact eu
   have ho:¬ (8<=x.op/\x.op<=16):=fun h=>hl (h4.2 h);rw[HO hl]at Xc |-;generalize fc x=t at *;rw[bE]at h1 |-;refine bB vt ?_;intro Q aX aY aZ;repeat' first|refine aQ ?_|refine aR ?_ ?_<;>intro hw<;>try omega|fail
   all_goals first|(refine c6 ?_ rfl;simp;done)|exact eu
def Rr{t:Test}(h:oL t=true): oz t.a=true/\1<=t.kind/\t.kind<=6/\(t.kind=6->oz t.b=true):=by
 unfold oL at h;split at h
 ·rename_i h6;simp only[aD]at h;exact⟨h.1,ae,ae,fun _=>h.2⟩
 rename_i h6;simp only[aD,au]at h;exact⟨h.1.1.1.2,h.1.1.1.1.1,ae,fun h=>absurd h h6⟩
def My{t:Test}(h:qI t=false): (testW t).length<=420:=by
 simp only[qI,Bool.or_eq_false_iff,Bool.and_eq_false_iff,decide_eq_false_iff_not]at h;have ha:=uV h.1 4;have hs:(lG t.kind).length<=2:=by unfold lG;split;simp;split;simp;split;simp;split<;>simp
 unfold testW;split
 ·omega
 split
 ·rename_i h6;have hb:=uV (x:=t.b) (by rcases h.2 with h|h;exact absurd h6 h;exact h) 4;have l1:(W_ t).length=1:=by unfold W_;split<;>rfl
  have l2:(Xa t).length=1:=by unfold Xa;split<;>rfl
  simp only[aG,aE,a_];omega
 simp only[aG,aE,a_];omega
def Xd(t:Test)(hs:oL t=true)(h:Et t): aA aM 183 [dJ t] (.bg [.str (if qI t=true then []else testW t),I (if qI t=true then 5 else 0)]):=by
 obtain⟨p1,k1,k6,p2⟩:=Rr hs;have wa:=Jz t.a p1 h.1.1 h.1.2;have hsg:=Mt t.kind;have la:=fun hb=>uV (x:=t.a) hb 4;have lb:=fun hb=>uV (x:=t.b) hb 4;by_cases h6:t.kind=6
 ·have wb:=Jz t.b (p2 h6) h.2.1 h.2.2;have hW:testW t=W_ t++kJ t.a 4++[46,46]++kJ t.b 4++Xa t:=by unfold testW;rw[if_neg ae,if_pos h6]
  have hB:qI t=(o9 t.a || o9 t.b):=by unfold qI;rw[decide_eq_true h6,Bool.true_and]
  rw[hW,hB];unfold W_ Xa;clear hW hB p1 p2 hs;generalize kJ t.a 4=ta at *;generalize kJ t.b 4=tb at *;generalize o9 t.a=ba at *;generalize o9 t.b=bb at *;rw[bE]at wa wb;simp only[dJ,dG];cases ba<;>simp only[Bool.false_eq_true,if_false,if_true,Bool.true_or,Bool.false_or]at wa la |-
  ·have la:=la trivial;cases bb<;>simp only[Bool.false_eq_true,if_false,if_true]at wb lb |-
   ·have lb:=lb trivial;refine bB pR ?_;intro Q aX aY aZ;repeat' first|refine aQ ?_|refine aR ?_ ?_<;>intro hw<;>try omega|fail
    all_goals first|(refine c6 ?_ rfl;simp_all;done)|exact eu
   refine bB pR ?_;intro Q aX aY aZ;repeat' first|refine aQ ?_|refine aR ?_ ?_<;>intro hw<;>try omega|fail
   all_goals first|(refine c6 ?_ rfl;simp_all;done)|exact eu
  refine bB pR ?_;intro Q aX aY aZ;repeat' first|refine aQ ?_|refine aR ?_ ?_<;>intro hw<;>try omega|fail
  all_goals first|(refine c6 ?_ rfl;simp_all;done)|exact eu
 have hW:testW t=if t.kind=1 then kJ t.a 4 else lG t.kind++[32]++kJ t.a 4:=by unfold testW;rw[if_neg h6]
 have hB:qI t=o9 t.a:=by unfold qI;rw[decide_eq_false h6,Bool.false_and,Bool.or_false]
 have hsl:(lG t.kind).length<=2:=by unfold lG;split;simp;split;simp;split;simp;split<;>simp
 rw[hW,hB];clear hW hB p1 p2 hs;generalize kJ t.a 4=ta at *;generalize o9 t.a=ba at *;generalize lG t.kind=sg at *;rw[bE]at wa;simp only[dJ,dG];cases ba<;>simp only[Bool.false_eq_true,if_false,if_true]at wa la |-
 ·have la:=la trivial;refine bB pR ?_;intro Q aX aY aZ;repeat' first|refine aQ ?_|refine aR ?_ ?_<;>intro hw<;>try omega|fail
  all_goals first|(refine c6 ?_ rfl;simp_all;done)|exact eu
 refine bB pR ?_;intro Q aX aY aZ;repeat' first|refine aQ ?_|refine aR ?_ ?_<;>intro hw<;>try omega|fail
 all_goals first|(refine c6 ?_ rfl;simp_all;done)|exact eu
def Eu{sep:bj}{B:Nat}: ∀(r:List bj),(∀ x ∈ r,x.length<=B)->(Lib.joinTail sep r).length<=r.length*(B+sep.length)
 | [],_=>by simp[Lib.joinTail]
 | x :: r, h => by
   have h1:=h x aT;have h2:=Eu (sep:=sep) r (fun y hy=>h y (cP _ hy));have e:Lib.joinTail sep (x::r)=sep++x++Lib.joinTail sep r:=by simp[Lib.joinTail]
   rw[e,aG,aG,aE,bJ];omega
def ZH{sep:bj}{B:Nat}(l:List bj)(h:∀ x ∈ l,x.length<=B): (Lib.join l sep).length<=l.length*(B+sep.length):=by
 cases l with
 | nil=>simp[Lib.join_nil]
 | cons x r =>
   have h1:=h x aT;have h2:=Eu (sep:=sep) r (fun y hy=>h y (cP _ hy));rw[Lib.join_cons,aG,aE,bJ];omega
def aeB{l:List Test}{i:Nat}(h:i<l.length): (l.map testW).take (i+1)=(l.map testW).take i++[testW (l.getD i default)]:=by
 rw[List.take_succ_eq_append_getElem (by simpa using h)];simp[h]
def acj{l:List Test}{n:Nat}(h:∀ k,k<n->k<l.length->qI (l.getD k default)=false): ∀ x ∈ (l.map testW).take n,x.length<=420:=by
 intro x hx;obtain⟨k,hk,rfl⟩:=bY hx;simp only[dH,c8]at hk;have:=My (h k ae ae);have e:l.getD k default=l[k]'ae:=by simp[aj,show k<l.length by omega]
 rw[e]at this;simpa using this
def Xe(c:Cell)(h:zN c): aA aM 113 [dK c] (.bg [.str (FP c).1,I (FP c).2]):=by
 have PB:=BS c h.ok
 have hT:FP c=if nR c=false then([],2)else if c.any=true then([45],0)else if c.tests.any qI=true then([],5)
  else if 200<(KR c.neg (Jy c.tests)).length then([],5)else (KR c.neg (Jy c.tests),0):=rfl
 rw[hT];clear hT;cases hr:nR c with
 | false =>
   rw[hr]at PB;simp only[nO,aN,if_false]at PB;rw[aB rfl];simp only[dK,jT]at PB |-;refine bB xj ?_;intro Q aX aY aZ;repeat' first|refine aQ ?_|refine aR ?_ ?_<;>intro hw<;>try omega|fail
   all_goals exact c6 rfl rfl
 | true =>
   rw[hr]at PB;simp only[nO,if_true]at PB;rw[aq aT];cases ha:c.any with
   | true =>
     rw[aB rfl];simp only[dK,jT,ha]at PB |-;refine bB xj ?_;intro Q aX aY aZ;repeat' first|refine aQ ?_|refine aR ?_ ?_<;>intro hw<;>try omega|fail
     all_goals exact c6 rfl rfl
   | false =>
     rw[aq aT];have Mz:=hr;unfold nR at Mz;rw[aq (by simp[ha])]at Mz;simp only[aD,au,dR,List.any_eq_false]at Mz;obtain⟨⟨l1,l12⟩,hsd⟩:=Mz;have hsd:∀ t ∈ c.tests,oL t=true:=fun t ht=>by have:=hsd t ht;simpa using this
     simp only[dK,jT,ha]at PB |-;refine bB xj ?_;intro Q aX aY aZ;repeat' first|refine aQ ?_|refine aR ?_ ?_<;>intro hw<;>try omega|fail
     with_reducible refine dA [2,2,5,1,7,3,21,17] (fun q:Nat × List bG=>[(21,I q.1),(5,.own E1 1 q.1 0 q.1)]) (fun q=> .cells [.bool false,.bool c.neg,.aH false ES (c.tests.map dJ)]:: .vec E1 (((c.tests.map testW).take q.1).map fG)::q.2) (fun q=>q.1<=c.tests.length/\ ∀ k,k<q.1->qI (c.tests.getD k default)=false) (fun q=>c.tests.length-q.1) (0,[]) ?_ ?_ ?_ ?_
     ·simp
     ·simp
     ·exact at_
     rintro⟨i,H⟩ r ⟨h1,h2⟩;dsimp only at h1 h2;by_cases hi:i<c.tests.length
     ·have hmem:=dh hi;have ht:=Xd _ (hsd _ hmem) (h.2 _ hmem);have hwt:=aeB hi;have fF:=fun he=>cS h2 (i:=i) he;have Ux:=fun hb=>WJ (p:=qI) hi hb;have hwl:=fun hb=>My (t:=c.tests.getD i default) hb;have hvl:((c.tests.map testW).take i).length=i:=by rw[dH,c8];omega
      generalize hVV:(c.tests.map testW).take i=V at *;obtain⟨t,HN⟩:=gi (c.tests.getD i default);rw[HN]at ht hwt fF Ux hwl;simp only[dJ,dG]at ht;generalize testW t=tw at *;cases hb:qI t with
      | true =>
        rw[hb]at ht;simp only[if_true]at ht;have Ux:=Ux hb;simp only[Ux,if_true]at aX aY aZ;repeat' first|refine fy HN ?_|refine aQ ?_|refine aR ?_ ?_<;>intro hw<;>try omega|fail
        all_goals first|exact c6 rfl rfl|exact eu
      | false =>
        rw[hb]at ht;simp only[aN,if_false]at ht;have fF:=fF hb;repeat' first|refine fy (zA HN hvl) ?_|refine aQ ?_|refine aR ?_ ?_<;>intro hw<;>try omega|fail
        all_goals first
         | (refine ⟨(i + 1, H ++ [.cells [I t.kind, I t.a.op, I t.a.v.kind, I t.a.v.n, .str t.a.v.s, .str t.a.s, .aH false EX (t.a.l.map br), I t.b.op, I t.b.v.kind, I t.b.v.n, .str t.b.v.s, .str t.b.s, .aH false EX (t.b.l.map br), .bool t.lo, .bool t.hi]]), ?_, ?_, ?_, fU, at_⟩ <;> (try dsimp only)
            ·exact⟨ae,fF⟩
            ·omega
            all_goals (rw[hwt];simp[fG]))
         | exact eu
     have yz:(c.tests.map testW).take i=c.tests.map testW:=cM (by simp;omega);have R8:i=c.tests.length:=ae;have hnb:c.tests.any qI=false:=Sj (p:=qI) (fun k hk=>h2 k ae);have hws:=acj (l:=c.tests) (n:=i) (fun k hk _=>h2 k hk);rw[yz]at hws |-;have qA:=ZH (sep:=zM) _ hws;rw[c8]at qA;have hj:=strings_Join (c.tests.map testW) zM (by simp;omega) (by simp only[zM,List.length_cons,List.length_nil]at qA;have:c.tests.length*(420+(0+1+1))<=12*422:=Nat.mul_le_mul l12 (Nat.le_refl _);unfold zM;omega)
     have alk:(Lib.join (c.tests.map testW) zM).length<=12*422:=by
      simp only[zM,aE,a_]at qA;have:c.tests.length*(420+(0+1+1))<=12*422:=Nat.mul_le_mul l12 (aV _);unfold zM;omega
     have hlw:(c.tests.map testW).length=i:=by rw[c8];omega
     simp only[hnb,aN,if_false,Jy]at aX aY aZ;clear qA;obtain⟨J,hJ⟩:=gi (Lib.join (c.tests.map testW) zM);rw[hJ]at hj alk;simp only[hJ]at aX aY aZ;clear hJ;simp only[ji,zM]at hj;have SA:∀ σ : ai,σ[1]? = some (.vec E1 ((c.tests.map testW).map fG))->bR σ [.own E1 1 i 0 i,.str [44,32]] [.aH false E1 ((c.tests.map testW).map fG),.str [44,32]]:=fun σ xh=> .cons (View.vec xh (by rw[c8,hlw]) (by rw[c8,hlw]) (OX _)) (.cons (.refl _ rfl) (.nil _));cases hn:c.neg with
     | true =>
       simp only[hn,KR,if_true]at aX aY aZ;by_cases hbig:200<([110,111,116,40]++J++[41]:bj).length
       ·simp only[aB hbig]at aX aY aZ;simp only[aG,aE,a_]at hbig;repeat' first|refine aQ ?_|(with_reducible refine wN hj (SA _ rfl) rfl ?_)|refine aR ?_ ?_<;>intro hw<;>try omega|fail
        all_goals first|exact c6 rfl rfl|exact eu
       simp only[aq hbig]at aX aY aZ;simp only[aG,aE,a_]at hbig;repeat' first|refine aQ ?_|(with_reducible refine wN hj (SA _ rfl) rfl ?_)|refine aR ?_ ?_<;>intro hw<;>try omega|fail
       all_goals first|(refine c6 ?_ rfl;simp;done)|exact eu
     | false =>
       simp only[hn,KR,aN,if_false]at aX aY aZ;by_cases hbig:200<J.length
       ·simp only[aB hbig]at aX aY aZ;repeat' first|refine aQ ?_|(with_reducible refine wN hj (SA _ rfl) rfl ?_)|refine aR ?_ ?_<;>intro hw<;>try omega|fail
        all_goals first|exact c6 rfl rfl|exact eu
       simp only[aq hbig]at aX aY aZ;repeat' first|refine aQ ?_|(with_reducible refine wN hj (SA _ rfl) rfl ?_)|refine aR ?_ ?_<;>intro hw<;>try omega|fail
       all_goals first|exact c6 rfl rfl|exact eu
def vA (fn : FuncId) (cap : List AV) (hcap : AV.cK cap = true) (p : fh -> Bool) (l : List fh) (h : ∀ k, k < l.length -> aA aM fn (dS (l.getD k default) :: cap) (.bool (p (l.getD k default)))) (hl : l.length <= 2^62) :
    aA aM 342 [ei l,.fn (.func fn) [] cap] (.bool (l.any p)):=by
 refine bB sU ?_ (by simp[AV.dU,AV.cK,hcap,j9]);intro Q aX aY aZ;have hc:=qC fn cap hcap p l h hl;simp only[ei]at hc;repeat' first|refine aQ ?_|refine aR ?_ ?_<;>intro hw<;>try omega|fail
 all_goals refine bu ?_ rfl
 all_goals rw[<-HI]
def qE (fn : FuncId) (cap : List AV) (hcap : AV.cK cap = true) (p : fh -> fh -> Bool) (l m : List fh)
    (h:∀ k,k<l.length->k<m.length->aA aM fn (dS (l.getD k default)::dS (m.getD k default)::cap) (.bool (p (l.getD k default) (m.getD k default)))) (hl:l.length<=2^62) (hm:m.length<=2^62) :
    aA aM 188 [ei l,ei m,.fn (.func fn) [] cap] (.bool (jy p l m)):=by
 refine bB vq ?_ (by simp[AV.dU,AV.cK,hcap,j9]);intro Q aX aY aZ;repeat' first|refine aQ ?_|refine aR ?_ ?_<;>intro hw<;>try omega|fail
 ·refine bu ?_ rfl;rw[wP ae]
 have Ax:l.length=m.length:=ae;with_reducible refine dA [6,4,17,15] (fun p:Nat × List bG=>[(17,I p.1)]) (fun p=>p.2) (fun q=>q.1<=l.length/\ ∀ k,k<q.1->p (l.getD k default) (m.getD k default)=true) (fun p=>l.length-p.1) (0,[]) ?_ ?_ ?_ ?_
 ·simp
 ·rfl
 ·exact at_
 rintro⟨i,H⟩ r ⟨h1,h2⟩;dsimp only at h1 h2;by_cases hi:i<l.length
 ·have hy:=h i hi ae;simp only[dJ,dS,gG,ov,dK,dG,jT,j_,ji,qP]at hy;repeat' first|refine aQ ?_|refine aR ?_ ?_<;>intro hw<;>try omega|fail
  ·refine bu ?_ rfl;rw[Av hi hw ae]
  refine⟨(i+1,H++[.cells [.str (l.getD i default).name,I (l.getD i default).kind,.aH false EV ((l.getD i default).order.map nL)]]++[.cells [.str (m.getD i default).name,I (m.getD i default).kind,.aH false EV ((m.getD i default).order.map nL)]]),?_,?_,by first|rfl|(simp[go_sem];done),fU,at_⟩<;>(try dsimp only)
  ·exact⟨ae,cS h2 hw⟩
  omega
 repeat' first|refine aQ ?_|refine aR ?_ ?_<;>intro hw<;>try omega|fail
 refine bu ?_ rfl;rw[wQ Ax (fun k hk=>h2 k ae)]
def AE (fn : FuncId) (cap : List AV) (hcap : AV.cK cap = true) (p : gX -> gX -> Bool) (l m : List gX)
    (h:∀ k,k<l.length->k<m.length->aA aM fn (gG (l.getD k default)::gG (m.getD k default)::cap) (.bool (p (l.getD k default) (m.getD k default)))) (hl:l.length<=2^62) (hm:m.length<=2^62) :
    aA aM 190 [jj l,jj m,.fn (.func fn) [] cap] (.bool (jy p l m)):=by
 refine bB xk ?_ (by simp[AV.dU,AV.cK,hcap,wB]);intro Q aX aY aZ;repeat' first|refine aQ ?_|refine aR ?_ ?_<;>intro hw<;>try omega|fail
 ·refine bu ?_ rfl;rw[wP ae]
 have Ax:l.length=m.length:=ae;with_reducible refine dA [6,4,17,15] (fun p:Nat × List bG=>[(17,I p.1)]) (fun p=>p.2) (fun q=>q.1<=l.length/\ ∀ k,k<q.1->p (l.getD k default) (m.getD k default)=true) (fun p=>l.length-p.1) (0,[]) ?_ ?_ ?_ ?_
 ·simp
 ·rfl
 ·exact at_
 rintro⟨i,H⟩ r ⟨h1,h2⟩;dsimp only at h1 h2;by_cases hi:i<l.length
 ·have hy:=h i hi ae;simp only[dJ,dS,gG,ov,dK,dG,jT,j_,ji,qP]at hy;repeat' first|refine aQ ?_|refine aR ?_ ?_<;>intro hw<;>try omega|fail
  ·refine bu ?_ rfl;rw[Av hi hw ae]
  refine⟨(i+1,H++[.cells [.aH false E1 ((l.getD i default).cells.map fG),.aH false E1 ((l.getD i default).outs.map fG)]]++[.cells [.aH false E1 ((m.getD i default).cells.map fG),.aH false E1 ((m.getD i default).outs.map fG)]]),?_,?_,by first|rfl|(simp[go_sem];done),fU,at_⟩<;>(try dsimp only)
  ·exact⟨ae,cS h2 hw⟩
  omega
 repeat' first|refine aQ ?_|refine aR ?_ ?_<;>intro hw<;>try omega|fail
 refine bu ?_ rfl;rw[wQ Ax (fun k hk=>h2 k ae)]
def SB(v u:jC): (v==u)=((v.kind==u.kind) && (v.n==u.n) && (v.s==u.s)):=by
 obtain⟨a,b,c⟩:=v;obtain⟨d,e,f⟩:=u;rw[cq];simp[and_assoc]
def Ev(l:List jC)(v:jC)(hl:l.length<=2^60): aA aM 392 [j_ l,nL v] (I (lN (fun x=>x==v) l)):=by
 simp only[j_,nL];refine bB Ao ?_;intro Q aX aY aZ;repeat' first|refine aQ ?_|refine aR ?_ ?_<;>intro hw<;>try omega|fail
 with_reducible refine dA [4,2,8,11] (fun i:Nat=>[(8,I i)]) (fun _=>[.cells [I v.kind,I v.n,.str v.s]]) (fun i=>i<=l.length/\ ∀ k,k<i->(l.getD k default==v)=false) (fun i=>l.length-i) (0) ?_ ?_ ?_ ?_
 ·simp
 ·rfl
 ·exact at_
 rintro i r ⟨h1,h2⟩;by_cases hi:i<l.length
 ·obtain⟨u,hu⟩:=gi (l.getD i default);have hb:=SB u v;repeat' first|refine fy hu ?_|refine aQ ?_|refine aR ?_ ?_<;>intro hw<;>try omega|fail
  ·refine bu ?_ rfl;refine bC I ?_;exact(tL (p:=fun x=>x==v) hi h2 (by rw[hu,hb];simp_all)).symm
  refine⟨i+1,?_,?_,by first|rfl|(simp[go_sem];done),fU,at_⟩<;>(try dsimp only)
  ·exact⟨ae,cS h2 (by rw[hu,hb,<-Bool.not_eq_true];simp only[<-Bool.not_eq_true,aD,beq_iff_eq,not_and]at hw |-;intro c;exact fun d=>hw ⟨c.1.symm,c.2.symm⟩ d.symm)⟩
  omega
 repeat' first|refine aQ ?_|refine aR ?_ ?_<;>intro hw<;>try omega|fail
 refine bu ?_ rfl;refine bC I ?_;exact(pT (p:=fun x=>x==v) fun k hk=>h2 k ae).symm
def Ew(l m:List jC)(hl:l.length<=2^60)(hm:m.length<=2^60): aA aM 281 [j_ l,j_ m] (.bool (jy (fun a b=>a==b) l m)):=by
 simp only[j_];refine bB Ar ?_;intro Q aX aY aZ;repeat' first|refine aQ ?_|refine aR ?_ ?_<;>intro hw<;>try omega|fail
 ·refine bu ?_ rfl;rw[wP ae]
 have Ax:l.length=m.length:=ae;with_reducible refine dA [4,2,13,13] (fun i:Nat=>[(13,I i)]) (fun _=>[]) (fun i=>i<=l.length/\ ∀ k,k<i->(l.getD k default==m.getD k default)=true) (fun i=>l.length-i) (0) ?_ ?_ ?_ ?_
 ·simp
 ·rfl
 ·exact at_
 rintro i r ⟨h1,h2⟩;by_cases hi:i<l.length
 ·have hb:=SB (l.getD i default) (m.getD i default);repeat' first|refine aQ ?_|refine aR ?_ ?_<;>intro hw<;>try omega|fail
  ·refine bu ?_ rfl;rw[Av (p:=fun a b=>a==b) hi (by rw[hb,<-Bool.not_eq_true];simp_all) ae]
  refine⟨i+1,?_,?_,by first|rfl|(simp[go_sem];done),fU,at_⟩<;>(try dsimp only)
  ·exact⟨ae,cS h2 (by rw[hb];simp_all)⟩
  omega
 repeat' first|refine aQ ?_|refine aR ?_ ?_<;>intro hw<;>try omega|fail
 refine bu ?_ rfl;rw[wQ (p:=fun a b=>a==b) Ax (fun k hk=>h2 k ae)]
def s6(l m:List bj)(hl:l.length<=2^60)(hm:m.length<=2^60): aA aM 282 [ji l,ji m] (.bool (jy (fun a b=>a==b) l m)):=by
 simp only[ji];refine bB zD ?_;intro Q aX aY aZ;repeat' first|refine aQ ?_|refine aR ?_ ?_<;>intro hw<;>try omega|fail
 ·refine bu ?_ rfl;rw[wP ae]
 have Ax:l.length=m.length:=ae;with_reducible refine dA [4,2,13,13] (fun i:Nat=>[(13,I i)]) (fun _=>[]) (fun i=>i<=l.length/\ ∀ k,k<i->(l.getD k default==m.getD k default)=true) (fun i=>l.length-i) (0) ?_ ?_ ?_ ?_
 ·simp
 ·rfl
 ·exact at_
 rintro i r ⟨h1,h2⟩;by_cases hi:i<l.length
 ·repeat' first|refine aQ ?_|refine aR ?_ ?_<;>intro hw<;>try omega|fail
  ·refine bu ?_ rfl;rw[Av (p:=fun a b=>a==b) hi (by rw[<-Bool.not_eq_true];simp_all) ae]
  refine⟨i+1,?_,?_,by first|rfl|(simp[go_sem];done),fU,at_⟩<;>(try dsimp only)
  ·exact⟨ae,cS h2 (by simp_all)⟩
  omega
 repeat' first|refine aQ ?_|refine aR ?_ ?_<;>intro hw<;>try omega|fail
 refine bu ?_ rfl;rw[wQ (p:=fun a b=>a==b) Ax (fun k hk=>h2 k ae)]
def Ey(c:fh)(k:Nat): Bool:=gZ (c.order.getD k default) && decide ((c.order.getD k default).kind=c.kind) && decide (lN (fun x=>x==c.order.getD k default) c.order=k)
def lu(c:fh)(asked:Bool): Bool :=
 if asked then(List.range c.order.length).all (Ey c) && decide (1<=c.order.length/\c.order.length<=8)else decide (c.order.length=0)
def wD(c:fh): Prop:=c.name.length<=2^62/\c.order.length<=2^60/\ ∀ v ∈ c.order,(-9223372036854775808<=v.n/\v.n<=9223372036854775807)/\v.s.length<=2^62
def MA{c:fh}{i:Nat}(hi:i<c.order.length)(h:Ey c i=false): lu c true=false:=by
 unfold lu;rw[aB rfl]
 have:(List.range c.order.length).all (Ey c)=false:=by
  rw[List.all_eq_false];exact⟨i,by simpa using hi,by simp[h]⟩
 rw[this];rfl
def Uy{c:fh}(h:∀ k,k<c.order.length->Ey c k=true): lu c true=decide (1<=c.order.length/\c.order.length<=8):=by
 unfold lu;rw[aB rfl]
 have:(List.range c.order.length).all (Ey c)=true:=by
  rw[bt];intro k hk;exact h k (by simpa using hk)
 rw[this];rfl
def PC(c:fh)(b:Bool)(h:wD c): aA aM 344 [dS c,.bool b] (.bool (lu c b)):=by
 obtain⟨_,hl,hv⟩:=h;simp only[dS,j_];cases b with
 | false =>
   have hS:lu c false=decide (c.order.length=0):=rfl;rw[hS];refine bB yM ?_;intro Q aX aY aZ;repeat' first|refine aQ ?_|refine aR ?_ ?_<;>intro hw<;>try omega|fail
   refine bu ?_ rfl;refine bC AV.bool ?_;rw[cq];simp_all
 | true =>
   refine bB yM ?_;intro Q aX aY aZ;repeat' first|refine aQ ?_|refine aR ?_ ?_<;>intro hw<;>try omega|fail
   with_reducible refine dA [4,3,16,24] (fun q:Nat × List bG=>[(16,I q.1)]) (fun q=> .cells [.str c.name,I c.kind,.aH false EV (c.order.map nL)]::q.2) (fun q=>q.1<=c.order.length/\ ∀ k,k<q.1->Ey c k=true) (fun q=>c.order.length-q.1) (0,[]) ?_ ?_ ?_ ?_
   ·simp
   ·rfl
   ·exact at_
   rintro⟨i,H⟩ r ⟨h1,h2⟩;dsimp only at h1 h2;by_cases hi:i<c.order.length
   ·have hvi:=hv _ (dh hi);have hO:Ey c i=(gZ (c.order.getD i default) && decide ((c.order.getD i default).kind=c.kind) && decide (lN (fun x=>x==c.order.getD i default) c.order=i)):=rfl;obtain⟨v,ZI⟩:=gi (c.order.getD i default);rw[ZI]at hvi hO;have c1:=uo v.kind v.n v.s hvi.1.1 hvi.1.2;have c2:=Ev c.order v hl;rw[show (⟨v.kind,v.n,v.s⟩:jC)=v from rfl]at c1;simp only[j_,nL]at c2;generalize lN (fun x=>x==v) c.order=ix at *;cases hrv:gZ v;all_goals (rw[hrv]at c1 hO;simp only[nO,aN,if_false,if_true]at c1)
    ·repeat' first|refine fy ZI ?_|refine aQ ?_|refine aR ?_ ?_<;>intro hw<;>try omega|fail
     all_goals (refine bu ?_ rfl;rw[MA hi (by rw[hO];rfl)])
    repeat' first|refine fy ZI ?_|refine aQ ?_|refine aR ?_ ?_<;>intro hw<;>try omega|fail
    all_goals first
     |(refine bu ?_ rfl;rw[MA hi (by rw[hO];simp_all;done)])
     | (refine ⟨(i + 1, H ++ [.cells [I v.kind, I v.n, .str v.s]]), ?_, ?_, by first | rfl | (simp [go_sem]; done), fU, at_⟩ <;> (try dsimp only)
        ·exact⟨ae,cS h2 (by rw[hO];simp_all)⟩
        ·omega)
   repeat' first|refine aQ ?_|refine aR ?_ ?_<;>intro hw<;>try omega|fail
   all_goals (refine bu ?_ rfl;rw[Uy (fun k hk=>h2 k ae)];refine bC AV.bool ?_;rw[cq];simp_all)
   all_goals (try omega)
def nU(l:List fh)(b:Bool): Int:=if kY l≠0 then kY l else if l.length=0\/(l.any fun c=> !(lu c b))=true then 17 else 0
def HP(c:fh)(b:Bool)(h:wD c): aA aM 343 [dS c,.cN E1 (.bool b) 0] (.bool (!(lu c b))):=by
 have h1:=PC c b h;simp only[dS,j_]at h1 |-;generalize lu c b=o at *;refine bB C1 ?_;intro Q aX aY aZ;repeat' first|refine aQ ?_|refine aR ?_ ?_<;>intro hw<;>try omega|fail
 all_goals exact bu rfl rfl
def AG(l:List fh)(b:Bool)(hl:l.length<=2^60)(h:∀ c ∈ l,wD c): aA aM 264 [ei l,.bool b] (I (nU l b)):=by
 have h1:=KO l (fun k hk=>(h _ (dh hk)).1);have h2:=vA 343 [.cN E1 (.bool b) 0] rfl (fun c=> !(lu c b)) l (fun k hk=>HP _ b (h _ (dh hk))) ae;have hS:nU l b=if kY l≠0 then kY l else if l.length=0\/(l.any fun c=> !(lu c b))=true then 17 else 0:=rfl
 rw[hS];clear hS;simp only[ei]at h1 h2 |-;generalize (l.any fun c=> !(lu c b))=an at *;generalize kY l=cs at *;refine bB Gd ?_;intro Q aX aY aZ;repeat' first|refine aQ ?_|refine cv_ h2 ?_|refine aR ?_ ?_<;>intro hw<;>try omega|fail
 all_goals (refine bu ?_ rfl;refine bC I ?_;simp_all[<-List.length_eq_zero_iff])
 all_goals (try omega)
def qp(t:Table): Bool :=
 if t.dF<1\/6<t.dF then false else if t.agg=0 then true
 else if t.dF≠5\/t.agg<1\/4<t.agg\/t.outs.length≠1 then false
 else decide (t.agg=4\/(t.outs.getD 0 default).kind=1\/(t.outs.getD 0 default).kind=2/\t.agg≠1)
def lz(t:Table): Int :=
 if jb t.name=false then 13 else if nU t.ins false≠0 then nU t.ins false
 else if nU t.outs (decide (t.dF=3))≠0 then nU t.outs (decide (t.dF=3))
 else if qp t=false then 17 else if 24<t.rules.length then 24 else 0
def qt(t:Table): Prop:=t.name.length<=2^30/\(t.ins.length<=2^30/\ ∀ c ∈ t.ins,wD c)/\(t.outs.length<=2^30/\ ∀ c ∈ t.outs,wD c) /\
 t.rules.length<=2^30/\ ∀ r ∈ t.rules,(r.cells.length<=2^30/\ ∀ s ∈ r.cells,s.length<=2^30)/\r.outs.length<=2^30/\ ∀ s ∈ r.outs,s.length<=2^30
def JA{l:List fh}(h:kY l=0){i:Nat}(hi:i<l.length): 1<=(l.getD i default).kind/\(l.getD i default).kind<=3:=by
 by_cases h6:6<l.length
 ·unfold kY at h;rw[if_pos h6]at h;omega
 by_cases hc:∀ k,k<l.length->tO l k=0
 ·have:=hc i hi;unfold tO at this;split at this
  ·omega
  split at this
  ·omega
  omega
 exfalso;unfold kY at h;rw[aq h6]at h;split at h
 ·rename_i j hj;have:=gk hj;simp[h]at this
 rename_i hn;apply hc;intro k hk;have:=fJ.1 hn k (by simpa using hk);simpa using this
def Ez{l:List fh}{b:Bool}(h:nU l b=0): kY l=0/\0<l.length:=by
 unfold nU at h;split at h
 ·omega
 split at h
 ·omega
 rename_i h1 h2;refine⟨ae,?_⟩;rcases Nat.eq_zero_or_pos l.length with h3|h3
 ·exact absurd (.inl h3) h2
 exact h3
def NB(t:Table)(ho:kY t.outs=0): aA aM 265 [fV t] (.bool (qp t)):=by
 have hk:=fun h=>JA ho (i:=0) h;have hS:qp t=if t.dF<1\/6<t.dF then false else if t.agg=0 then true else if t.dF≠5\/t.agg<1\/4<t.agg\/t.outs.length≠1 then false else decide (t.agg=4\/(t.outs.getD 0 default).kind=1\/(t.outs.getD 0 default).kind=2/\t.agg≠1):=rfl
 rw[hS];clear hS ho;simp only[fV,kI,ei,jj];obtain⟨c,aeC⟩:=gi (t.outs.getD 0 default);rw[aeC]at hk |-;refine bB HE ?_;intro Q aX aY aZ;repeat' first|refine fy aeC ?_|refine aQ ?_|refine aR ?_ ?_<;>intro hw<;>try omega|fail
 all_goals (refine bu ?_ rfl;refine bC AV.bool ?_;rw[cq];simp_all)
 all_goals (try omega)
def PD(t:Table)(h:qt t): aA aM 180 [fV t] (I (lz t)):=by
 obtain⟨h1,h2,h3,h4,_⟩:=h;have c1:=rB t.name ae;have c2:=AG t.ins false ae h2.2;have c3:=AG t.outs (decide (t.dF=3)) ae h3.2;have c4:nU t.outs (decide (t.dF=3))=0->aA aM 265 [fV t] (.bool (qp t)):=fun hb=>NB t (Ez hb).1;have hS:lz t=if jb t.name=false then 13 else if nU t.ins false≠0 then nU t.ins false else if nU t.outs (decide (t.dF=3))≠0 then nU t.outs (decide (t.dF=3))else if qp t=false then 17 else if 24<t.rules.length then 24 else 0:=rfl
 rw[hS];clear hS;simp only[fV,kI,ei,jj]at c2 c3 c4 |-;generalize jb t.name=n at *;generalize nU t.ins false=a at *;generalize nU t.outs (decide (t.dF=3))=b at *;generalize qp t=p at *;by_cases hb:b=0
 ·have c5:=c4 hb;clear c4;refine bB yL ?_;intro Q aX aY aZ;repeat' first|refine aQ ?_|refine aR ?_ ?_<;>intro hw<;>try omega|fail
  all_goals (refine bu ?_ rfl;refine bC I ?_;simp_all)
  all_goals (try omega)
 clear c4;refine bB yL ?_;intro Q aX aY aZ;repeat' first|refine aQ ?_|refine aR ?_ ?_<;>intro hw<;>try omega|fail
 all_goals first
  | exact eu
  |(refine bu ?_ rfl;refine bC I ?_;simp_all;done)
  |(refine bu ?_ rfl;refine bC I ?_;simp_all;omega)
def Xf{T:List Tok}(hT:zK T)(hl:T.length<=2^20)(p:Nat)(b:Bool): Et (gH T p b).t:=by
 have hx:∀ p b,jN (jo T p b).x/\gW (jo T p b).x<=2^30:=fun p b=>⟨(BV hT p b).1,by have:=(BV hT p b).2;omega⟩;have h0:jN x0/\gW x0<=2^30:=⟨qS,by simp[x0,gW,mo]⟩;have h1:∀ k p b,Et (lT k (jo T p b)).t:=fun k p b=>⟨hx p b,h0⟩;have h2:∀ lo,Et (Mu T p lo).t:=fun lo=>⟨hx _ _,hx _ _⟩;unfold gH;split
 ·exact h1 _ _ _
 split
 ·exact h1 _ _ _
 split
 ·exact h1 _ _ _
 split
 ·exact h1 _ _ _
 split
 ·exact h2 _
 split
 ·exact h2 _
 exact h1 _ _ _
def Xg{T:List Tok}(hT:zK T)(hl:T.length<=2^20)(f:Nat): ∀(acc:List Test) (p:Nat) (b:Bool),(∀ t ∈ acc,Et t)->(∀ t ∈ (qR T f acc p b).ts,Et t)/\(qR T f acc p b).ts.length<=acc.length+f:=by
 induction f with
 | zero=>intro acc p b h;exact⟨h,aV _⟩
 | succ f ih =>
   intro acc p b h
   have h2:∀ t ∈ acc++[(gH T p b).t],Et t:=fun t ht=>by
    rcases List.mem_append.1 ht with ht|ht
    ·exact h t ht
    simp only[fj,eH,or_false]at ht;subst ht;exact Xf hT hl p b
   rw[ur];split
   ·have:=ih _ ((gH T p b).p+1) (gH T p b).bad h2;rw[aG,aE,a_]at this;exact⟨this.1,ae⟩
   exact⟨h2,by rw[aG,aE,a_];omega⟩
def Uz(s:bj): zN (lq s).1:=by
 have h:zN ⟨false,qH (c7 s).1,(kf (c7 s).1).ts⟩:=by
  have hf:=(qj s).1;have:=Xg (FO s) ae ((c7 s).1.length+1) [] (Sq (c7 s).1) false (fun t ht=>by cases ht);unfold kf zN;rw[Sv];exact⟨by have:=this.2;simp only[List.length_nil]at this;dsimp only;omega,this.1⟩
 have h0:zN c0:=⟨Nat.zero_le _,fun t ht=>by cases ht⟩;have h1:zN HM:=⟨Nat.zero_le _,fun t ht=>by cases ht⟩;unfold lq;repeat' split
 all_goals first|exact h0|exact h1|exact h
def MB(s:bj): jN (jI s).1/\gW (jI s).1<=2^30:=by
 have h:jN (iI (c7 s).1 0 0).1/\gW (iI (c7 s).1 0 0).1<=2^30:=by
  have hf:=(qj s).1;have:=HK (c7 s).1 0 0;exact⟨Pt (FO s) _ _,ae⟩
 have h0:jN x0/\gW x0<=2^30:=⟨qS,by simp[x0,gW,mo]⟩;unfold jI;repeat' split
 all_goals first|exact h0|exact h
def PE(t:Table)(k:Nat)(s:bj): Cell × Int:=((lq s).1,if(lq s).2.2=0 then zL t.ins (t.ins.getD k default).kind (lq s).1 else(lq s).2.2)
def JB(t:Table)(k:Nat)(s:bj): Expr × Int:=((jI s).1,if(jI s).2.2≠0 then(jI s).2.2 else if(jZ t.ins (jI s).1).2=0/\lE (jZ t.ins (jI s).1).1 (t.outs.getD k default).kind=false then 14 else(jZ t.ins (jI s).1).2)
def UA(t:Table)(k:Nat)(s:bj)(ht:t.ins.length<=2^30)(hk:k<t.ins.length)(hs:s.length<=2^30): aA aM 266 [fV t,I k,.str s] (.bg [dK (PE t k s).1,I (PE t k s).2]):=by
 have c1:=Uo s hs;have c2:=Uq t.ins ae (t.ins.getD k default).kind (lq s).1 (W3 s);have hS:PE t k s=((lq s).1,if(lq s).2.2=0 then zL t.ins (t.ins.getD k default).kind (lq s).1 else(lq s).2.2):=rfl;rw[hS];clear hS;dsimp only;obtain⟨cc,gQ⟩:∃ c,t.ins.getD k default=c:=⟨_,rfl⟩;rw[gQ]at c2 |-;generalize zL t.ins cc.kind (lq s).1=ty at *;generalize lq s=P at *;obtain⟨c,n,e⟩:=P;dsimp only at c1 c2 |-;simp only[eC3]at c1;obtain⟨C,hC⟩:=gi (dK c);have hC2:C = .agg [.bool c.any,.bool c.neg,.aH false ES (c.tests.map dJ)]:=by rw[<-hC];rfl
 simp only[dK,jT,fV,kI,ei,jj]at c1 c2 |-;refine bB Nt ?_;intro Q aX aY aZ;repeat' first|refine fy gQ ?_|refine aQ ?_|refine aR ?_ ?_<;>intro hw<;>try omega|fail
 all_goals (refine c6 ?_ aT;simp_all)
def Rs(t:Table)(k:Nat)(s:bj)(ht:t.ins.length<=2^30)(ho:t.outs.length<=2^30)(hk:k<t.outs.length)(hs:s.length<=2^30): aA aM 267 [fV t,I k,.str s] (.bg [br (JB t k s).1,I (JB t k s).2]):=by
 have c1:=Pk s hs;have hp:=MB s;have c2:=xB t.ins ae (jI s).1 hp.1 (by have:=hp.2;omega);have c3:=oU (jZ t.ins (jI s).1).1 (t.outs.getD k default).kind;have hS:JB t k s=((jI s).1,if(jI s).2.2≠0 then(jI s).2.2 else if(jZ t.ins (jI s).1).2=0/\lE (jZ t.ins (jI s).1).1 (t.outs.getD k default).kind=false then 14 else(jZ t.ins (jI s).1).2):=rfl;rw[hS];clear hS hp;dsimp only;obtain⟨cc,gQ⟩:∃ c,t.outs.getD k default=c:=⟨_,rfl⟩;rw[gQ]at c3 |-;generalize lE (jZ t.ins (jI s).1).1 cc.kind=fi at *;generalize jZ t.ins (jI s).1=ki at *;generalize jI s=P at *;obtain⟨x,n,e⟩:=P;dsimp only at c1 c2 |-;simp only[Mn]at c1;rw[bE]at c1 c2 |-;simp only[dG,fV,kI,ei,jj]at c1 c2 |-;refine bB Ku ?_;intro Q aX aY aZ;repeat' first|refine fy gQ ?_|refine aQ ?_|refine aR ?_ ?_<;>intro hw<;>try omega|fail
 all_goals (refine c6 ?_ aT;simp_all)
