/- Part. -/
import Derived.Test.YtcjcnfcedihckaaGreatDoorW24
set_option linter.all false
set_option maxHeartbeats 1000000
namespace Go.Proofs.YtcjcnfcedihckaaGreatDoor
open Go.AM
set_option maxRecDepth 4000
def mq {P : Program} {f : FuncId} {args : List AV} {r : AV} (hf : Has P f)
    (h : ∀ (g : aJ) (w : World) (σ : ae) (vs : Array Value), Rel g w σ -> args.length = vs.size -> (∀ i, i < args.length -> VR g w (args.getD i .undef) (vs.getD i Go.undef)) ->
      ∃ v,(∀ g' w',VR g' w' r v)/\Calls P f vs w fun e w'=>e = .returned v/\w'.os=w.os/\w'.tape=w.tape/\w'.output=w.output/\w.heap.size<=w'.heap.size/\ ∀ b,b<w.heap.size->w'.heap[b]? = w.heap[b]?):aM P f args r:=by
 intro σ;refine⟨hf,fun g w vs hR hl hv=>?_⟩;obtain⟨v,h1,h2⟩:=h g w σ vs hR hl hv;refine h2.mono ?_;rintro e w' ⟨rfl,k1,k2,k3,k4,k5⟩;obtain⟨r1,r2⟩:=hR.s6 k4 k1 k2 k3 k5;exact⟨.ret r,_,σ,r1,r2,h1 _ _,rfl,rfl⟩
def VR.HA{g:aJ}{w:World}(s:aI): VR g w (.str s) (.string ⟨s.toArray⟩):=VR.str s
def Oc{vs:Array Value}(h:1=vs.size): vs = #[vs.getD 0 Go.undef]:=by
 apply Array.ext
 ·simp[<-h]
 ·intro i h1 h2;simp at h2;subst h2;simp[<-h]
def HB{vs:Array Value}(h:2=vs.size): vs = #[vs.getD 0 Go.undef,vs.getD 1 Go.undef]:=by
 apply Array.ext
 ·simp[<-h]
 ·intro i h1 h2;simp at h2;obtain rfl|rfl:i=0\/i=1:=by omega
  ·simp[<-h]
  ·simp[<-h]
def strconv_Itoa(n:Int)(h0 : -9223372036854775808<=n)(h1:n<=9223372036854775807): aM aK 41 [I n] (.str (Lib.itoa n)):=by
 refine mq ⟨_,Tryz.func41,by kernel_rfl,by kernel_rfl⟩ fun g w σ vs hR hl hv=>?_;have h2:=hv 0 (by simp);rw[Oc hl];generalize vs.getD 0 Go.undef=v at h2;simp only[aV]at h2;cases h2;refine⟨_,fun g' w'=>VR.HA (Lib.itoa n),(Tryz.strconv_Itoa n h0 h1 w hR.glob.2.1).mono ?_⟩;rintro e w' ⟨rfl,k,os,rfl⟩;refine⟨rfl,rfl,rfl,rfl,by simp[Sort.grow,World.drewN],fun b hb=>?_⟩;simp only[Sort.grow,World.drewN];rw[eo (by simpa using hb)]
def strconv_FormatBool(b:Bool): aM aK 169 [.bool b] (.str (if b then pD else mY)):=by
 refine mq ⟨_,Tryz.func169,by kernel_rfl,by kernel_rfl⟩ fun g w σ vs hR hl hv=>?_;have h2:=hv 0 (by simp);rw[Oc hl];generalize vs.getD 0 Go.undef=v at h2;simp only[aV]at h2;cases h2;have e:Lib.formatBool b=if b then pD else mY:=by cases b<;>decide
 refine⟨_,fun g' w'=>VR.HA (if b then pD else mY),(Tryz.strconv_FormatBool b w).mono ?_⟩;rintro e w' ⟨rfl,rfl⟩;refine⟨by rw[e],rfl,rfl,rfl,Nat.le_refl _,fun _ _=>rfl⟩
def strings_Join(l:List aI)(sep:aI)(hl:l.length<=2 ^ 40)(hj:(Lib.join l sep).length<=2 ^ 40): aM aK 90 [bM l,.str sep] (.str (Lib.join l sep)):=by
 refine mq ⟨_,Tryz.func90,by kernel_rfl,by kernel_rfl⟩ fun g w σ vs hR hlen hv=>?_;have h2:=hv 0 (by simp);have h3:=hv 1 (by simp);rw[HB hlen];generalize vs.getD 0 Go.undef=v at h2;generalize vs.getD 1 Go.undef=u at h3;simp only[aV,cq]at h2 h3;cases h3;simp only[bM]at h2;generalize hxs:l.map bB=xs at h2;have below:∀ w':World,RowKit.Below w.heap.size w w'->w'.os=w.os/\w'.tape=w.tape/\w'.output=w.output/\w.heap.size<=w'.heap.size/\ ∀ b,b<w.heap.size->w'.heap[b]? = w.heap[b]?:=fun w' h=>⟨h.os,h.tape,h.output,h.size,h.block⟩;cases h2 with
 | iO f el b cap hf =>
   obtain rfl:l=[]:=by cases l<;>simp at hxs;rfl
   refine⟨_,fun g' w'=>VR.HA (Lib.join [] sep),(Tryz.strings_Join_none b cap ⟨sep.toArray⟩ w).mono ?_⟩;rintro e w' ⟨rfl,rfl⟩;refine⟨rfl,rfl,rfl,rfl,Nat.le_refl _,fun _ _=>rfl⟩
 | aO f el xs b off cap hi hf hx ft hc h =>
   subst hxs;have NR:=hR.lt b hi
   have hm:(l.map fun s=>(⟨s.toArray⟩:ByteArray)).map (·.data.toList)=l:=by
    rw[List.map_map];conv=>rhs;rw[<-List.map_id l]
    rfl
   have hcells:∀ (j:Nat) x,(l.map fun s=>(⟨s.toArray⟩:ByteArray))[j]? = some x->w.cell? ⟨b,off+j,none⟩=some (.string x):=fun j x hx'=>by
    obtain⟨hj',rfl⟩:=aP.1 hx';have qE:j<l.length:=by simpa using hj'
    have c1:=hc j 0 (by simpa using qE) (by decide);have c2:=h j 0 (by simpa using qE) (by decide);have e1:off+(j*(⟨false,1⟩:El).sz+0)=off+j:=by show off+(j*1+0)=off+j;omega
    rw[e1]at c1 c2;obtain⟨v,hv⟩:=fA.1 c1;have e2:((l.map bB).getD j .undef).cell 0 = .str (l[j]):=by simp[qE,bB,AV.cell]
    rw[e2]at c2;simp only[dD,hv,bA]at c2;cases c2;rw[hv];simp
   have:=Tryz.strings_Join b off cap (l.map fun s=>(⟨s.toArray⟩:ByteArray)) ⟨sep.toArray⟩ w hcells NR (by simp;omega) (by simpa using hx) (by rw[hm];show(Lib.join l sep).length<=_;omega);rw[hm]at this;simp only[bt]at this ⊢;refine⟨_,fun g' w'=>VR.HA (Lib.join l sep),this.mono ?_⟩;rintro e w' ⟨rfl,hb⟩;exact⟨rfl,below w' hb⟩
def gx{m:Nat}(h:10<=m): Lib.decDigits m=Lib.decDigits (m / 10)++[UInt8.ofNat (48+m % 10)]:=by
 conv=>lhs;rw[Lib.decDigits]
 rw[dif_neg (by omega)]
def lT{m:Nat}(h:m<10): Lib.decDigits m=[UInt8.ofNat (48+m)]:=by rw[Lib.decDigits,dif_pos h]
def AO(k:Nat): ∀ u:Nat,u<10 ^ (k+1)->(Lib.decDigits u).length<=k+1:=by
 induction k with
 | zero=>intro u h;rw[lT (by omega)];simp
 | succ k ih =>
   intro u h;by_cases h9:u<10
   ·rw[lT h9];simp
   ·rw[gx (by omega),aA];have:=ih (u / 10) (by rw[Nat.pow_succ]at h;omega);simp only[List.length_cons,List.length_nil];omega
def F1(m:Nat): Lib.itoa (m:Int)=Lib.decDigits m:=by unfold Lib.itoa;rw[if_neg (by omega)];rfl
def itoa_neg{m:Nat}(h:0<m): Lib.itoa (-(m:Int))=45::Lib.decDigits m:=by unfold Lib.itoa;rw[if_pos (by omega)];simp
@[go_sem] def aew {P : Program} {f : Bool} {σ : ae} {K Kp : AV -> ae -> Prop} (k : Int) (h : 0 <= k) (h' : k <= 255) : d_ P (.uZ (.c (.aO f ⟨false, 1⟩ [.int .u8 k]))) σ (.mk : Tg (K, Kp)) = K (.str [UInt8.ofNat k.toNat]) σ := by
  have:(UInt8.ofNat k.toNat).toNat=k.toNat:=by rw[UInt8.toNat_ofNat'];omega
  have e:AV.int .u8 k=AV.int .u8 (UInt8.ofNat k.toNat).toNat:=by rw[this];congr 1;omega
  rw[e];exact SP _
def C1(m:Nat): (m<=9223372036854775807->aM aK 31 [I m] (.str (Lib.itoa m)))/\(m<=9223372036854775808->aM aK 31 [I (-(m:Int))] (.str (Lib.itoa (-(m:Int))))):=by
 induction m using Nat.strongRecOn with
 | _ m ih =>
   by_cases h9:m<=9
   ·constructor
    ·intro _;rw[F1,lT (by omega)];refine aR mV ?_;intro Q aC aD aE;repeat' first|refine aG ?_|refine aF ?_ ?_<;>intro hw<;>try omega|fail
     all_goals first|(exfalso;omega)|(refine aS ?_ rfl;refine congrArg (fun n:Nat=>AV.str [UInt8.ofNat n]) ?_;omega)
    ·intro _;rcases Nat.eq_zero_or_pos m with rfl|hm
     ·have e:Lib.itoa (-((0:Nat):Int))=[48]:=by rw[show (-((0:Nat):Int))=((0:Nat):Int) from rfl,F1,lT (by omega)];rfl
      rw[e];refine aR mV ?_;intro Q aC aD aE;repeat' first|refine aG ?_|refine aF ?_ ?_<;>intro hw<;>try omega|fail
      all_goals first|(exfalso;omega)|exact aS rfl rfl
     ·rw[itoa_neg hm,lT (by omega)];refine aR mV ?_;intro Q aC aD aE;repeat' first|refine aG ?_|refine aF ?_ ?_<;>intro hw<;>try omega|fail
      all_goals first|(exfalso;omega)|(refine aS ?_ rfl;refine congrArg (fun n:Nat=>AV.str (45::[UInt8.ofNat n])) ?_;omega)
   ·obtain⟨i1,i2⟩:=ih (m / 10) (by omega);constructor
    ·intro hm;have i1:=i1 (by omega);rw[F1]at i1 ⊢;rw[gx (by omega)];have e1:(m:Int) / 10=((m / 10:Nat):Int):=by omega
     have hl:=AO 19 (m / 10) (by omega);generalize Lib.decDigits (m / 10)=D at *;refine aR mV ?_;intro Q aC aD aE;repeat' first|simp (disch:=omega) only[go_sem,aC,aD,aE,e1]|refine aG ?_|refine aF ?_ ?_<;>intro hw<;>try omega|fail
     all_goals first|(exfalso;omega)|(refine aS ?_ rfl;refine congrArg (fun n:Nat=>AV.str (D++[UInt8.ofNat n])) ?_;omega)
    ·intro hm;have i2:=i2 (by omega);rw[itoa_neg (by omega)]at i2 ⊢;rw[gx (by omega)];have e1:(-(m:Int)).tdiv 10 = -((m / 10:Nat):Int):=by rw[Int.neg_tdiv,Int.tdiv_eq_ediv_of_nonneg (by omega)];omega
     have hl:=AO 19 (m / 10) (by omega);generalize Lib.decDigits (m / 10)=D at *;have e2:(-(m:Int)).tmod 10 = -((m % 10:Nat):Int):=by rw[Int.neg_tmod,Int.tmod_eq_emod_of_nonneg (by omega)];omega
     refine aR mV ?_;intro Q aC aD aE;repeat' first|simp (disch:=omega) only[go_sem,aC,aD,aE,e1,e2]|refine aG ?_|refine aF ?_ ?_<;>intro hw<;>try omega|fail
     all_goals first|(exfalso;omega)|(refine aS ?_ rfl;refine congrArg (fun n:Nat=>AV.str (45::(D++[UInt8.ofNat n]))) ?_;omega)
def rH(n:Int)(h0 : -9223372036854775808<=n)(h1:n<=9223372036854775807): aM aK 31 [I n] (.str (Lib.itoa n)):=by
 by_cases h:0<=n
 ·obtain⟨m,rfl⟩:∃ m:Nat,n=m:=⟨n.toNat,by omega⟩;exact(C1 m).1 (by omega)
 ·obtain⟨m,rfl⟩:∃ m:Nat,n = -(m:Int):=⟨(-n).toNat,by omega⟩;exact(C1 m).2 (by omega)
def fN(c:UInt8): aI:=if c.toNat=34\/c.toNat=92 then [92,c]else [c]
def ji(s:aI): aI:=34::(s.flatMap fN++[34])
def HC{s:aI}{i:Nat}(h:i<s.length): (s.take (i+1)).flatMap fN=(s.take i).flatMap fN++fN (s.getD i 0):=by
 rw[List.take_succ_eq_append_getElem h,List.flatMap_append];simp[h]
def C2(s:aI): (s.flatMap fN).length<=2*s.length:=by
 induction s with
 | nil=>simp
 | cons c r ih =>
   rw[dw,aA,List.length_cons];have:(fN c).length<=2:=by unfold fN;split<;>simp
   omega
def au_{p:Prop}(h:p:=by simp (disch:=omega) only[iS,gC,and_true,go_sem,x7,FA,Co,Nat.reduceAdd,Nat.reduceBEq,↓reduceIte,Int.natCast_add,Int.cast_ofNat_Int]<;>(try trivial)<;>(try omega)<;>(try (repeat (first|trivial|(refine And.intro ?_ ?_)|(congr 1;omega))))<;>(try (simp;done))): p:=h
def Qb(s:aI)(hs:s.length<=2 ^ 38): aM aK 112 [.str s] (.str (ji s)):=by
 refine aR Ji ?_;intro Q aC aD aE;repeat' first|refine aG ?_|refine aF ?_ ?_<;>intro hw<;>try omega|fail
 with_reducible refine bX [3,4,5,6,7,8,9,10,11,12,13,14,15,16,17,18,19,20,21,22,23,24,25,26,27,28,29] (fun i:Nat=>[(4,I i),(3,.str (34::(s.take i).flatMap fN))]) (fun _=>[]) (fun i=>i<=s.length) (fun i=>s.length-i) (0) ?_ ?_ ?_ ?_
 ·simp
 ·rfl
 ·exact at_
 rintro i r h1;have hq:=C2 (s.take i);rw[List.length_take]at hq;have x6:((s.take i).flatMap fN).length<=2 ^ 40:=by omega
 by_cases hi:i<s.length
 ·have ht:=HC hi;generalize (s.take i).flatMap fN=acc at *;by_cases hc:(s.getD i 0).toNat=34\/(s.getD i 0).toNat=92
  ·rw[fN,if_pos hc]at ht;repeat' first|refine aG ?_|refine aF ?_ ?_<;>intro hw<;>try omega|fail
   all_goals first
    | (refine ⟨i + 1, ?_, ?_, by first | rfl | (simp [go_sem]; done), da, ?_⟩
       ·dsimp only;omega
       ·dsimp only;omega
       ·dsimp only;rw[ht];exact au_)
    | exact bK
  ·rw[fN,if_neg hc]at ht;repeat' first|refine aG ?_|refine aF ?_ ?_<;>intro hw<;>try omega|fail
   all_goals first
    | (refine ⟨i + 1, ?_, ?_, by first | rfl | (simp [go_sem]; done), da, ?_⟩
       ·dsimp only;omega
       ·dsimp only;omega
       ·dsimp only;rw[ht];exact au_)
    | exact bK
 ·have vQ:s.take i=s:=bp (by omega);rw[vQ]at x6 ⊢;unfold ji at aC aD aE;generalize s.flatMap fN=acc at *;repeat' first|refine aG ?_|refine aF ?_ ?_<;>intro hw<;>try omega|fail
  all_goals first|(refine aS ?_ rfl;simp;done)|exact bK
def dO(v:ez): aI:=if v.kind=1 then Lib.itoa v.n else if v.kind=2 then ji v.s else if v.kind=3 then(if v.n=1 then pD else mY)else AE
def Ti(v:ez)(h0 : -9223372036854775808<=v.n)(h1:v.n<=9223372036854775807)(hs:v.s.length<=2 ^ 38): aM aK 71 [fD v] (.str (dO v)):=by
 have d1:=rH v.n h0 h1;have d2:=Qb v.s hs;have hS:dO v=if v.kind=1 then Lib.itoa v.n else if v.kind=2 then ji v.s else if v.kind=3 then(if v.n=1 then pD else mY)else AE:=rfl
 rw[hS];clear hS;generalize Lib.itoa v.n=t1 at *;generalize ji v.s=t2 at *;simp only[fD];refine aR Mg ?_;intro Q aC aD aE;repeat' first|refine aG ?_|refine aF ?_ ?_<;>intro hw<;>try omega|fail
 all_goals (refine aS ?_ rfl;simp_all[pD,mY,AE])
def qK: aI:=[105,102,32]
def oQ: aI:=[32,116,104,101,110,32]
def vq: aI:=[32,101,108,115,101,32]
def ku(w:Int × aI)(lvl:Int): aI:=if w.1<lvl then 40::(w.2++[41])else w.2
def nN(op:Int)(v:ez)(s:aI)(ws:List (Int × aI)): aI :=
 if op=1 then dO v else if op=2 then s
 else if op=3 then 45::ku (ws.getD 0 default) 6
 else if op=16 then qK++ku (ws.getD 0 default) 0++oQ++ku (ws.getD 1 default) 0++vq++ku (ws.getD 2 default) 0
 else ku (ws.getD 0 default) (if(dJ op).level=3 then 4 else(dJ op).level)++[32]++(dJ op).sign++[32]++ku (ws.getD 1 default) ((dJ op).level+1)
mutual
def dN: Expr->aI
 | .mk op v s l=>nN op v s (pU l)
def pU: List Expr->List (Int × aI)
 | []=>[]
 | x::r=>(eC x.op,dN x)::pU r
end
def kA(x:Expr)(lvl:Int): aI:=ku (eC x.op,dN x) lvl
def F2(n:Int)(h0 : -9223372036854775808<=n)(h1:n<=9223372036854775807): (Lib.itoa n).length<=21:=by
 unfold Lib.itoa;split
 ·have:=AO 19 n.natAbs (by omega);rw[List.length_cons];omega
 ·have:=AO 19 n.toNat (by omega);omega
def vt(v:ez)(h0 : -9223372036854775808<=v.n)(h1:v.n<=9223372036854775807)(hr:bZ v=true): (dO v).length<=82:=by
 unfold dO;split
 ·have:=F2 v.n h0 h1;omega
 split
 ·rename_i h1 h2;unfold bZ at hr;rw[if_neg (by omega),if_neg (by omega),if_pos h2]at hr;simp only[gK,aq,decide_eq_true_eq]at hr;have:=C2 v.s;simp only[ji,List.length_cons,aA,List.length_nil];omega
 split
 ·split<;>simp[pD,mY]
 ·simp[AE]
def HD(w:Int × aI)(lvl:Int): (ku w lvl).length<=w.2.length+2:=by
 unfold ku;split<;>simp
def Od(op:Int): (dJ op).sign.length<=3:=by
 unfold dJ;cases h:jM.find? (fun b=>b.op==op)with
 | none=>simp
 | some b =>
   have:=fS h;simp only[jM,List.mem_cons,List.not_mem_nil,or_false]at this;rcases this with rfl|rfl|rfl|rfl|rfl|rfl|rfl|rfl|rfl|rfl|rfl|rfl<;>simp
def rm {op : Int} {v : ez} {s : aI} {l : List Expr} (h : di (.mk op v s l) = true) :
    (op=1/\l=[]/\s=[]/\bZ v=true/\(v.kind≠1\/0<=v.n))\/(op=2/\l=[]/\v=v0/\fh s=true)\/(op=3/\v=v0/\s=[]/\ ∃ a,l=[a]/\di a=true) \/
    (op=16/\v=v0/\s=[]/\ ∃ a b c,l=[a,b,c]/\di a=true/\di b=true/\di c=true) \/
    (4<=op/\op<=15/\v=v0/\s=[]/\1<=(dJ op).level/\(dJ op).level<=5/\eC op=(dJ op).level/\(dJ op).op=op/\(dJ op) ∈ jM/\ ∃ a b,l=[a,b]/\di a=true/\di b=true):=by
 simp only[di,aq,decide_eq_true_eq]at h;obtain⟨h1,h2⟩:=h;by_cases o1:op=1
 ·left;rw[if_pos o1]at h2;simp only[aq,decide_eq_true_eq,dm]at h2;have:jZ op=0:=by unfold jZ;rw[if_pos (.inl o1)]
  exact⟨o1,List.length_eq_zero_iff.1 (by omega),h2.1.1,h2.1.2,h2.2⟩
 rw[if_neg o1]at h2;by_cases o2:op=2
 ·right;left;rw[if_pos o2]at h2;simp only[aq,decide_eq_true_eq]at h2;have:jZ op=0:=by unfold jZ;rw[if_pos (.inr o2)]
  exact⟨o2,List.length_eq_zero_iff.1 (by omega),h2.1,h2.2⟩
 rw[if_neg o2]at h2;simp only[aq,decide_eq_true_eq]at h2;obtain⟨⟨h3,h4⟩,h5⟩:=h2;by_cases o3:op=3
 ·right;right;left;have:jZ op=1:=by unfold jZ;rw[if_neg (by omega),if_pos o3]
  match l,h1,h5 with
  | [a],_,h5=>simp only[rf,fW]at h5;exact⟨o3,h3,h4,a,rfl,h5⟩
  | [],h1,_=>simp at h1;omega
  | _::_::_,h1,_=>simp at h1;omega
 by_cases o4:op=16
 ·right;right;right;left;have:jZ op=3:=by unfold jZ;rw[if_neg (by omega),if_neg o3,if_pos o4]
  match l,h1,h5 with
  | [a,b,c],_,h5=>simp only[rf,fW,aq]at h5;exact⟨o4,h3,h4,a,b,c,rfl,h5.1,h5.2.1,h5.2.2⟩
  | [],h1,_=>simp at h1;omega
  | [_],h1,_=>simp at h1;omega
  | [_,_],h1,_=>simp at h1;omega
  | _::_::_::_::_,h1,_=>simp at h1;omega
 ·right;right;right;right;have hc:jZ op=if 0<(dJ op).level then 2 else -1:=by unfold jZ;rw[if_neg (by omega),if_neg o3,if_neg o4]
  have hlv:0<(dJ op).level:=by
   by_cases h:0<(dJ op).level
   ·exact h
   ·rw[if_neg h]at hc;omega
  rw[if_pos hlv]at hc;have Tj:eC op=(dJ op).level:=by unfold eC;rw[if_neg o4,if_neg o3,if_neg (by omega)]
  have hf:(dJ op).op=op/\dJ op ∈ jM:=by
   unfold dJ at hlv ⊢;cases hq:jM.find? (fun b=>b.op==op)with
   | none=>rw[hq]at hlv;simp at hlv
   | some b =>
     have h1:=dW hq;exact⟨by simpa using h1,fS hq⟩
  have hb:4<=op/\op<=15/\(dJ op).level<=5:=by
   obtain⟨q1,q2⟩:=hf;generalize dJ op=b at q1 q2;simp only[jM,List.mem_cons,List.not_mem_nil,or_false]at q2;rcases q2 with rfl|rfl|rfl|rfl|rfl|rfl|rfl|rfl|rfl|rfl|rfl|rfl<;>(dsimp only at q1 ⊢;omega)
  match l,h1,h5 with
  | [a,b],_,h5=>simp only[rf,fW,aq]at h5;exact⟨hb.1,hb.2.1,h3,h4,by omega,hb.2.2,Tj,hf.1,hf.2,a,b,rfl,h5.1,h5.2⟩
  | [],h1,_=>simp at h1;omega
  | [_],h1,_=>simp at h1;omega
  | _::_::_::_,h1,_=>simp at h1;omega
def Bu{x:Expr}(h:di x=true): 0<=eC x.op:=by
 obtain⟨op,v,s,l⟩:=x;rcases rm h with⟨rfl,_⟩|⟨rfl,_⟩|⟨rfl,_⟩|⟨rfl,_⟩|⟨_,_,_,_,h1,_,h2,_⟩
 ·show 0<=eC 1;decide
 ·show 0<=eC 2;decide
 ·show 0<=eC 3;decide
 ·show 0<=eC 16;decide
 ·show 0<=eC op;omega
def F3{x:Expr}{lv:Int}(h:¬ eC x.op<lv): kA x lv=dN x:=by unfold kA ku;exact if_neg h
def Oe{x:Expr}{lv:Int}(h:eC x.op<lv): kA x lv=40::(dN x++[41]):=by unfold kA ku;exact if_pos h
def VP{s:aI}(h:fh s=true): s.length<=16:=by
 simp only[fh,aq,decide_eq_true_eq]at h;exact h.1.2
def Tk(x:Expr): di x=true->jD x->(dN x).length<=110*fT x:=by
 induction x using Expr.ind with
 | h op v s l ih =>
   intro hr hx;simp only[jD]at hx;obtain⟨_,_,hv1,Vr,hl⟩:=hx
   have key:∀ y ∈ l,di y=true-> ∀ lvl,(ku (eC y.op,dN y) lvl).length<=110*fT y+2:=fun y hy hry lvl=>by
    have:=ih y hy hry (Ju hl hy);have:=HD (eC y.op,dN y) lvl;dsimp only at this;omega
   have hsg:=Od op;rcases rm hr with⟨rfl,rfl,rfl,h1,_⟩|⟨rfl,rfl,rfl,h1⟩|⟨rfl,rfl,rfl,a,rfl,ha⟩|⟨rfl,rfl,rfl,a,b,c,rfl,ha,hb,hc⟩|⟨o1,o2,rfl,rfl,_,_,_,_,_,a,b,rfl,ha,hb⟩
   ·have:=vt v hv1 Vr h1;simp only[dN,nN,if_true,fT];omega
   ·have:=VP h1;simp[dN,nN,fT];omega
   ·have:=key a (by simp) ha 6;simp[dN,pU,nN,fT,mA];omega
   ·have k1:=key a (by simp) ha 0;have k2:=key b (by simp) hb 0;have k3:=key c (by simp) hc 0;simp[dN,pU,nN,fT,mA,qK,oQ,vq];omega
   ·have k1:=key a (by simp) ha (if(dJ op).level=3 then 4 else(dJ op).level);have k2:=key b (by simp) hb ((dJ op).level+1)
    have:dN (.mk op v0 [] [a,b])=ku (eC a.op,dN a) (if(dJ op).level=3 then 4 else(dJ op).level)++[32]++(dJ op).sign++[32]++ku (eC b.op,dN b) ((dJ op).level+1):=by
     simp only[dN,pU,nN];rw[if_neg (by omega),if_neg (by omega),if_neg (by omega),if_neg (by omega)];rfl
    rw[this];simp only[aA,List.length_cons,List.length_nil,fT,mA];omega
def o_(x:Expr): Bool:=decide (200<(dN x).length)
def pE(x:Expr): aI × Int:=if di x=false then([],2)else if 12<lC x then([],12)else if o_ x=true then([],5)else (dN x,0)
def Yr{x:Expr}(hr:di x=true): kA x 0=dN x:=by
 have:=Bu hr;exact F3 (by omega)
abbrev TB: TypeId:=56
abbrev TU: TypeId:=5
def mG(T:TypeId)(σ : ae)(l:Nat)(s:aI): Prop:= ∃ p v,σ[l]? = some (.cg (some T) [p,v])/\(p = .iX\/p = .ref l 0) /\
 ((s=[]/\v = .au)\/(s≠[]/\ ∃ k,k≠l/\v = .own E1 k s.length 0 s.length/\σ[k]? = some (.cz (some TU) E1 (q8 s))))
def jj(l:Nat)(σ σ':ae): Prop:=σ.length<=σ'.length/\ ∀ j o,σ[j]? = some o->j≠l->(∀ T xs,o≠ .cz (some T) E1 xs)->σ'[j]? = some o
def jj.refl(l:Nat)(σ : ae): jj l σ σ:=⟨Nat.le_refl _,fun _ _ h _ _=>h⟩
def ey{σ : ae}{l:Nat}{o:aZ}(h : σ[l]? = some o): l < σ.length:=(aP.1 h).1
def Ys : ∃ fn, Tryz.prog.funcs[92]? = some fn ∧ (fn.name == "runtime.NumGoroutine") = false ∧ fn.body.isNone = true ∧ Extern.findNext fn = none ∧ Extern.find fn = some Extern.AbiNoEscape.same :=
 ⟨_,Tryz.func92,by kernel_rfl,by kernel_rfl,by kernel_rfl,by kernel_rfl⟩
def C4(T:TypeId): Prop:=liesAt Tryz.prog Tryz.prog.depth T (2 / Tryz.prog.cellsOf T) 0 TB 1=true
def uA: C4 TB:=by unfold C4;kernel_rfl
def Builder_copyCheck {T : TypeId} (hT : C4 T) (σ : ae) (l : Nat) (p v : AV) (h : σ[l]? = some (.cg (some T) [p, v])) (hp : p = .iX \/ p = .ref l 0) :
    cR aK 46 [.ref l 0] σ fun o σ'=>o = .ret (.bU [])/\σ' = σ.set l (.cg (some T) [.ref l 0,v]):=by
 have ug : σ.set l (.cg (some T) [.ref l 0,v]) = σ\/p = .iX:=by
  rcases hp with rfl|rfl
  ·exact .inr rfl
  ·left;apply List.ext_getElem?;intro k;by_cases e:k=l
   ·subst e;rw[List.getElem?_set_self (ey h)];exact h.symm
   ·rw[List.getElem?_set_ne (Ne.symm e)]
 refine uo.go ?_;unfold eY;intro Q aC aD aE;rcases hp with rfl|rfl
 ·repeat' first|simp (disch:=omega) only[go_sem,aC,aD,aE,h]|refine aG ?_|refine aen h (by simp) ?_|refine aaM Ys ?_|refine aeo h hT ?_|refine aF ?_ ?_<;>intro hw<;>try omega|fail
  exact⟨by trivial,by trivial⟩
 ·rcases ug with ug|ug
  ·repeat' first|simp (disch:=omega) only[go_sem,aC,aD,aE,h]|refine aG ?_|refine aep h ?_|refine aF ?_ ?_<;>intro hw<;>try omega|fail
   exact⟨rfl,ug.symm⟩
  ·cases ug
def Builder_Len{T:TypeId}(σ : ae)(l:Nat)(s:aI)(h:mG T σ l s): cR aK 159 [.ref l 0] σ fun o σ'=>o = .ret (I s.length)/\σ' = σ:=by
 obtain⟨p,v,h1,h2,h3⟩:=h;refine yP.go ?_;unfold eY;intro Q aC aD aE;rcases h3 with⟨rfl,rfl⟩|⟨h3,k,h4,rfl,h5⟩
 ·repeat' first|simp (disch:=omega) only[go_sem,aC,aD,aE,h1]|refine aG ?_|refine aF ?_ ?_<;>intro hw<;>try omega|fail
  exact⟨rfl,trivial⟩
 ·repeat' first|simp (disch:=omega) only[go_sem,aC,aD,aE,h1]|refine aG ?_|refine aF ?_ ?_<;>intro hw<;>try omega|fail
  exact⟨rfl,trivial⟩
def Builder_WriteString {T : TypeId} (hT : C4 T) (σ : ae) (l : Nat) (s t : aI) (h : mG T σ l s) (hlen : s.length + t.length <= 2 ^ 38) :
    cR aK 21 [.ref l 0,.str t] σ fun o σ'=>o = .ret (.bU [I t.length,.jn])/\mG T σ' l (s++t)/\jj l σ σ':=by
 obtain⟨p,v,h1,h2,h3⟩:=h;have hl:=ey h1;refine s8.go ?_;unfold eY;intro Q aC aD aE;have gy:=Builder_copyCheck hT σ l p v h1 h2;have rq:(σ.set l (.cg (some T) [.ref l 0,v]))[l]? = some (.cg (some T) [.ref l 0,v]):=by simp[hl]
 have beside:∀ (o:aZ),jj l σ (σ.set l o):=fun o=>⟨by simp,fun j o' hj hne _=>by rw[List.getElem?_set_ne (Ne.symm hne)];exact hj⟩;rcases h3 with⟨rfl,rfl⟩|⟨h3,k,h4,rfl,h5⟩
 ·cases t with
  | nil =>
    repeat' first|simp (disch:=omega) only[go_sem,aC,aD,aE,rq]|refine aG ?_|with_reducible refine cA gy ?_|refine aF ?_ ?_<;>intro hw<;>try omega|fail
    rintro o s ⟨rfl,rfl⟩;repeat' first|simp (disch:=omega) only[go_sem,aC,aD,aE,rq,bF]|refine aG ?_|refine aF ?_ ?_<;>intro hw<;>try omega|fail
    exact⟨rfl,⟨_,_,rq,.inr rfl,.inl ⟨rfl,rfl⟩⟩,beside _⟩
  | cons c t =>
    simp only[List.length_nil,List.length_cons]at hlen;repeat' first|simp (disch:=omega) only[go_sem,aC,aD,aE,rq]|refine aG ?_|with_reducible refine cA gy ?_|refine aF ?_ ?_<;>intro hw<;>try omega|fail
    rintro o s ⟨rfl,rfl⟩
    have AP:∀ o,((σ.set l (.cg (some T) [.ref l 0,.au]))++[o])[l]? = some (.cg (some T) [.ref l 0,.au]):=fun o=>by
     rw[aH (by simpa using hl)];exact rq
    repeat' first|simp (disch:=omega) only[go_sem,aC,aD,aE,rq,AP,bF]|refine aG ?_|refine aF ?_ ?_<;>intro hw<;>try omega|fail
    rw[List.set_append_left _ _ (by simpa using hl),bF];refine⟨rfl,⟨.ref l 0,.own E1 σ.length (t.length+1) 0 (t.length+1),?_,.inr rfl,.inr ⟨by simp,σ.length,by omega,by simp,?_⟩⟩,by simp,fun j o' hj hne _=>?_⟩
    ·rw[aH (by simpa using hl)];simp[hl]
    ·rw[bL (by simp)];simp
    ·rw[aH (by simpa using ey hj),List.getElem?_set_ne (Ne.symm hne)];exact hj
 ·have hk:=ey h5;have La:∀ o,(σ.set l o)[k]? = some (.cz (some TU) E1 (q8 s)):=fun o=>by rw[List.getElem?_set_ne (Ne.symm h4)];exact h5
  repeat' first|simp (disch:=omega) only[go_sem,aC,aD,aE,rq]|refine aG ?_|with_reducible refine cA gy ?_|refine aF ?_ ?_<;>intro hw<;>try omega|fail
  rintro o s' ⟨rfl,rfl⟩
  have AP:∀ o,((σ.set l (.cg (some T) [.ref l 0,.own E1 k s.length 0 s.length])).set k o)[l]? = some (.cg (some T) [.ref l 0,.own E1 k s.length 0 s.length]):=fun o=>by
   rw[List.getElem?_set_ne h4];exact rq
  repeat' first|simp (disch:=omega) only[go_sem,aC,aD,aE,rq,AP,La,bF]|refine aG ?_|refine aF ?_ ?_<;>intro hw<;>try omega|fail
  refine⟨rfl,⟨.ref l 0,.own E1 k (s.length+t.length) 0 (s.length+t.length),?_,.inr rfl,.inr ⟨by simp[h3],k,h4,by simp,?_⟩⟩,by simp,fun j o' hj hne xw=>?_⟩
  ·simp[hl]
  ·rw[List.getElem?_set_ne (Ne.symm h4)];simp[hk]
  ·have Ce:j≠k:=fun e=>by subst e;rw[h5]at hj;cases hj;exact xw _ _ rfl
   rw[List.getElem?_set_ne (Ne.symm hne),List.getElem?_set_ne (Ne.symm Ce),List.getElem?_set_ne (Ne.symm hne)];exact hj
def Builder_String{T:TypeId}(σ : ae)(l:Nat)(s:aI)(h:mG T σ l s)(hs:s.length<=2 ^ 62): cR aK 23 [.ref l 0] σ fun o σ'=>o = .ret (.str s)/\jj l σ σ':=by
 obtain⟨p,v,h1,h2,h3⟩:=h;refine wu.go ?_;unfold eY;intro Q aC aD aE;rcases h3 with⟨rfl,rfl⟩|⟨h3,k,h4,rfl,h5⟩
 ·repeat' first|simp (disch:=omega) only[go_sem,aC,aD,aE,h1]|refine aG ?_|refine aF ?_ ?_<;>intro hw<;>try omega|fail
  exact⟨rfl,.refl _ _⟩
 ·have h0:0<s.length:=List.length_pos_iff.2 h3;repeat' first|simp (disch:=omega) only[go_sem,aC,aD,aE,h1]|refine aG ?_|refine aeq h5 (by simp) h0 ?_|refine acG s h5 (by simp) rfl h3 hs rfl ?_|refine aF ?_ ?_<;>intro hw<;>try omega|fail
  refine⟨rfl,by simp,fun j o' hj hne xw=>?_⟩;have Ce:j≠k:=fun e=>by subst e;rw[h5]at hj;cases hj;exact xw _ _ rfl
  rw[List.getElem?_set_ne (Ne.symm Ce)];exact hj
def mG.push{T:TypeId}{σ : ae}{l:Nat}{s:aI}(h:mG T σ l s)(ρ : ae): mG T (σ++ ρ) l s:=by
 obtain⟨p,v,h1,h2,h3⟩:=h;refine⟨p,v,by rw[aH (ey h1)];exact h1,h2,?_⟩;rcases h3 with h3|⟨h3,k,h4,h5,h6⟩
 ·exact .inl h3
 ·exact .inr ⟨h3,k,h4,h5,by rw[aH (ey h6)];exact h6⟩
def mG.lt{T:TypeId}{σ : ae}{l:Nat}{s:aI}(h:mG T σ l s): l < σ.length:=by
 obtain⟨p,v,h1,_⟩:=h;exact ey h1
def mG.Yt{T:TypeId}{σ : ae}{l q:Nat}{s u:aI}{i:Nat}(h:mG T σ l s)(hq : σ[q]? = some (.jc u i))(o:aZ): mG T (σ.set q o) l s:=by
 obtain⟨p,v,h1,h2,h3⟩:=h;have n1:q≠l:=fun e=>by subst e;rw[hq]at h1;cases h1
 refine⟨p,v,by rw[List.getElem?_set_ne n1];exact h1,h2,?_⟩;rcases h3 with h3|⟨h3,k,h4,h5,h6⟩
 ·exact .inl h3
 ·have n2:q≠k:=fun e=>by subst e;rw[hq]at h6;cases h6
  exact .inr ⟨h3,k,h4,h5,by rw[List.getElem?_set_ne n2];exact h6⟩
def jj.trans{l:Nat}{σ1 σ2 σ3:ae}(h:jj l σ1 σ2)(k:jj l σ2 σ3): jj l σ1 σ3 :=
 ⟨cE h.1 k.1,fun j o h1 h2 h3=>k.2 j o (h.2 j o h1 h2 h3) h2 h3⟩
def jj.qv{l:Nat}{σ ρ σ2:ae}(h:jj l (σ++ ρ) σ2): jj l σ σ2 :=
 ⟨cE (by simp) h.1,fun j o h1 h2 h3=>h.2 j o (by rw[aH (ey h1)];exact h1) h2 h3⟩
def VQ{n:Int}(h:0<=n)(h':n<=4294967295): eK .u32 n=n:=by
 show IntKind.wrap .u32 n=n;simp[IntKind.wrap,IntKind.bits,IntKind.signed];omega
def Builder_WriteByte {T : TypeId} (hT : C4 T) (σ : ae) (l : Nat) (s : aI) (c : UInt8) (k : Int) (hk : k = c.toNat) (h : mG T σ l s) (hlen : s.length <= 2 ^ 38) :
    cR aK 22 [.ref l 0,.int .u8 k] σ fun o σ'=>o = .ret .jn/\mG T σ' l (s++[c])/\jj l σ σ':=by
 subst hk;obtain⟨p,v,h1,h2,h3⟩:=h;have hl:=ey h1;refine um.go ?_;unfold eY;intro Q aC aD aE;have gy:=Builder_copyCheck hT σ l p v h1 h2;have rq:(σ.set l (.cg (some T) [.ref l 0,v]))[l]? = some (.cg (some T) [.ref l 0,v]):=by simp[hl]
 rcases h3 with⟨rfl,rfl⟩|⟨h3,k,h4,rfl,h5⟩
 ·repeat' first|simp (disch:=omega) only[go_sem,aC,aD,aE,rq]|refine aG ?_|with_reducible refine cA gy ?_|refine aF ?_ ?_<;>intro hw<;>try omega|fail
  rintro o s' ⟨rfl,rfl⟩
  have AP:∀ o,((σ.set l (.cg (some T) [.ref l 0,.au]))++[o])[l]? = some (.cg (some T) [.ref l 0,.au]):=fun o=>by
   rw[aH (by simpa using hl)];exact rq
  repeat' first|simp (disch:=omega) only[go_sem,aC,aD,aE,rq,AP,bF]|refine aG ?_|refine aF ?_ ?_<;>intro hw<;>try omega|fail
  rw[List.set_append_left _ _ (by simpa using hl),bF];refine⟨rfl,⟨.ref l 0,.own E1 σ.length 1 0 1,?_,.inr rfl,.inr ⟨by simp,σ.length,by omega,by simp,?_⟩⟩,by simp,fun j o' hj hne _=>?_⟩
  ·rw[aH (by simpa using hl)];simp[hl]
  ·rw[bL (by simp)];simp
  ·rw[aH (by simpa using ey hj),List.getElem?_set_ne (Ne.symm hne)];exact hj
 ·have hk:=ey h5;have La:∀ o,(σ.set l o)[k]? = some (.cz (some TU) E1 (q8 s)):=fun o=>by rw[List.getElem?_set_ne (Ne.symm h4)];exact h5
  repeat' first|simp (disch:=omega) only[go_sem,aC,aD,aE,rq]|refine aG ?_|with_reducible refine cA gy ?_|refine aF ?_ ?_<;>intro hw<;>try omega|fail
  rintro o s' ⟨rfl,rfl⟩
  have AP:∀ o,((σ.set l (.cg (some T) [.ref l 0,.own E1 k s.length 0 s.length])).set k o)[l]? = some (.cg (some T) [.ref l 0,.own E1 k s.length 0 s.length]):=fun o=>by
   rw[List.getElem?_set_ne h4];exact rq
  repeat' first|simp (disch:=omega) only[go_sem,aC,aD,aE,rq,AP,La,bF]|refine aG ?_|refine aF ?_ ?_<;>intro hw<;>try omega|fail
  refine⟨rfl,⟨.ref l 0,.own E1 k (s.length+1) 0 (s.length+1),?_,.inr rfl,.inr ⟨by simp,k,h4,by simp,?_⟩⟩,by simp,fun j o' hj hne xw=>?_⟩
  ·simp[hl]
  ·rw[List.getElem?_set_ne (Ne.symm h4)];simp[hk]
  ·have Ce:j≠k:=fun e=>by subst e;rw[h5]at hj;cases hj;exact xw _ _ rfl
   rw[List.getElem?_set_ne (Ne.symm hne),List.getElem?_set_ne (Ne.symm Ce),List.getElem?_set_ne (Ne.symm hne)];exact hj
def JC (σ : ae) (k : Nat) (s : aI) (c : UInt8) (hc : c.toNat < 128) (h : σ[k]? = some (.cz (some TU) E1 (q8 s))) (hlen : s.length <= 2 ^ 38) :
    cR aK 244 [.own E1 k s.length 0 s.length,.int .i32 c.toNat] σ fun o σ'=>o = .ret (.own E1 k (s.length+1) 0 (s.length+1))/\σ' = σ.set k (.cz (some TU) E1 (q8 (s++[c]))):=by
 refine vG.go ?_;unfold eY;intro Q aC aD aE;repeat' first|simp (disch:=omega) only[go_sem,aC,aD,aE,h,VQ]|refine aG ?_|refine aF ?_ ?_<;>intro hw<;>try omega|fail
 all_goals first|(refine⟨rfl,?_⟩;simp;done)|exact bK
def vW {T : TypeId} (hT : C4 T) (σ : ae) (l : Nat) (s : aI) (c : UInt8) (hc : c.toNat < 128) (h : mG T σ l s) (hs : s ≠ []) (hlen : s.length <= 2 ^ 38) :
    cR aK 206 [.ref l 0,.int .i32 c.toNat] σ fun o σ'=>(∃ r,o = .ret r)/\mG T σ' l (s++[c])/\jj l σ σ':=by
 obtain⟨p,v,h1,h2,h3⟩:=h;have hl:=ey h1;refine ur.go ?_;unfold eY;intro Q aC aD aE;have gy:=Builder_copyCheck hT σ l p v h1 h2;have rq:(σ.set l (.cg (some T) [.ref l 0,v]))[l]? = some (.cg (some T) [.ref l 0,v]):=by simp[hl]
 rcases h3 with⟨rfl,rfl⟩|⟨h3,k,h4,rfl,h5⟩
 ·exact absurd rfl hs
 ·have hk:=ey h5;have La:∀ o,(σ.set l o)[k]? = some (.cz (some TU) E1 (q8 s)):=fun o=>by rw[List.getElem?_set_ne (Ne.symm h4)];exact h5
  repeat' first|simp (disch:=omega) only[go_sem,aC,aD,aE,rq]|refine aG ?_|with_reducible refine cA gy ?_|refine aF ?_ ?_<;>intro hw<;>try omega|fail
  rintro o s' ⟨rfl,rfl⟩;repeat' first|simp (disch:=omega) only[go_sem,aC,aD,aE,rq]|refine aG ?_|with_reducible refine cA (JC _ k s c hc (La _) hlen) ?_|refine aF ?_ ?_<;>intro hw<;>try omega|fail
  rintro o s' ⟨rfl,rfl⟩
  have AP:∀ o,((σ.set l (.cg (some T) [.ref l 0,.own E1 k s.length 0 s.length])).set k o)[l]? = some (.cg (some T) [.ref l 0,.own E1 k s.length 0 s.length]):=fun o=>by
   rw[List.getElem?_set_ne h4];exact rq
  have h1a:∀ o o',(((σ.set l (.cg (some T) [.ref l 0,.own E1 k s.length 0 s.length])).set k o).set l o')[l]? = some o':=fun o o'=>by
   rw[List.getElem?_set_self (by simpa using hl)]
  repeat' first|simp (disch:=omega) only[go_sem,aC,aD,aE,rq,AP,h1a,La,bF]|refine aG ?_|refine aF ?_ ?_<;>intro hw<;>try omega|fail
  refine⟨⟨_,rfl⟩,⟨.ref l 0,.own E1 k (s.length+1) 0 (s.length+1),?_,.inr rfl,.inr ⟨by simp,k,h4,by simp,?_⟩⟩,by simp,fun j o' hj hne xw=>?_⟩
  ·simp[hl]
  ·rw[List.getElem?_set_ne (Ne.symm h4)];simp[hk]
  ·have Ce:j≠k:=fun e=>by subst e;rw[h5]at hj;cases hj;exact xw _ _ rfl
   rw[List.getElem?_set_ne (Ne.symm hne),List.getElem?_set_ne (Ne.symm Ce),List.getElem?_set_ne (Ne.symm hne)];exact hj
def Qc(s:aI)(ha:∀ i,i<s.length->(s.getD i 0).toNat<128)(hs:s.length<=2 ^ 36): aM aK 168 [.str s] (.str (ji s)):=by
 refine aR Jm ?_;intro Q aC aD aE;have hb0:mG TB [.cg (some TB) [.iX,.au]] 0 []:=⟨_,_,rfl,.inl rfl,.inl ⟨rfl,rfl⟩⟩;repeat' first|refine aG ?_|with_reducible refine cA (Builder_WriteByte uA _ 0 _ 34 34 rfl hb0 (by simp)) ?_|refine aF ?_ ?_<;>intro hw<;>try omega|fail
 rintro o σ ⟨rfl,tT,_⟩;repeat' first|refine aG ?_|refine aF ?_ ?_<;>intro hw<;>try omega|fail
 generalize hq : σ.length=q at *;with_reducible refine bX [5,9,10,11,12,13,14,15,16,17,18,19] (fun x:Nat × ae=>[]) (fun x=>x.2) (fun x=>x.1<=s.length/\mG TB x.2 0 (34::(s.take x.1).flatMap fN)/\x.2[q]? = some (.jc s x.1)) (fun x=>s.length-x.1) (0,σ++[.jc s 0]) ?_ ?_ ?_ ?_
 ·exact⟨bJ _,by simpa using tT.push _,by rw[<-hq];simp⟩
 ·rfl
 ·exact at_
 clear tT hb0 hq;rintro⟨i,σ⟩ r ⟨h1,h2,h3⟩;dsimp only at h1 h2 h3;have hql:=C2 (s.take i);rw[List.length_take]at hql;have x6:(34::(s.take i).flatMap fN).length<=2 ^ 37+1:=by rw[List.length_cons];omega
 by_cases hi:i<s.length
 ·have hai:=ha i hi;have ht:=HC hi;have hb:=h2.Yt h3 (.jc s (i+1));have hne:(34::(s.take i).flatMap fN:aI)≠[]:=by simp
  have Rs:(σ.set q (.jc s (i+1)))[q]? = some (.jc s (i+1)):=by rw[List.getElem?_set_self (ey h3)]
  have hq0:q≠0:=fun e=>by
   obtain⟨p,v,k1,_⟩:=h2;rw[e,k1]at h3;cases h3
  generalize (s.take i).flatMap fN=acc at *;by_cases hc:(s.getD i 0).toNat=34\/(s.getD i 0).toNat=92
  ·rw[fN,if_pos hc]at ht;repeat' first|simp (disch:=omega) only[go_sem,aC,aD,aE,h3]|refine aG ?_|with_reducible refine cA (Builder_WriteByte uA _ 0 _ 92 92 rfl hb (by omega)) ?_|refine aF ?_ ?_<;>intro hw<;>try omega|fail
   all_goals first
    | (rintro o σ1 ⟨rfl, tT, de⟩
       have h3a:=de.2 q _ Rs hq0 (fun _ _=>by simp);repeat' first|refine aG ?_|with_reducible refine cA (vW uA _ 0 _ (s.getD i 0) hai tT (by simp) (by simp only[aA,List.length_cons,List.length_nil];omega)) ?_|refine aF ?_ ?_<;>intro hw<;>try omega|fail
       rintro o σ2 ⟨⟨rr,rfl⟩,gP,kg⟩;repeat' first|refine aG ?_|refine aF ?_ ?_<;>intro hw<;>try omega|fail
       refine⟨(i+1,σ2),⟨?_,?_,?_⟩,?_,rfl,da,at_⟩
       ·dsimp only;omega
       ·dsimp only;rw[ht];simpa using gP
       ·exact kg.2 q _ h3a hq0 (fun _ _=>by simp)
       ·dsimp only;omega)
    | exact bK
  ·rw[fN,if_neg hc]at ht;repeat' first|simp (disch:=omega) only[go_sem,aC,aD,aE,h3]|refine aG ?_|with_reducible refine cA (vW uA _ 0 _ (s.getD i 0) hai hb hne (by omega)) ?_|refine aF ?_ ?_<;>intro hw<;>try omega|fail
   all_goals first
    | (rintro o σ2 ⟨⟨rr, rfl⟩, gP, kg⟩
       repeat' first|refine aG ?_|refine aF ?_ ?_<;>intro hw<;>try omega|fail
       refine⟨(i+1,σ2),⟨?_,?_,?_⟩,?_,rfl,da,at_⟩
       ·dsimp only;omega
       ·dsimp only;rw[ht];simpa using gP
       ·exact kg.2 q _ Rs hq0 (fun _ _=>by simp)
       ·dsimp only;omega)
    | exact bK
 ·have ZD:i=s.length:=by omega
  have vQ:s.take i=s:=bp (by omega);rw[vQ]at h2 x6;simp only[List.length_cons]at x6;repeat' first|simp (disch:=omega) only[go_sem,aC,aD,aE,h3]|refine aG ?_|with_reducible refine cA (Builder_WriteByte uA _ 0 _ 34 34 rfl h2 (by simp only[List.length_cons];omega)) ?_|refine aF ?_ ?_<;>intro hw<;>try omega|fail
  rintro o σ1 ⟨rfl,tT,_⟩;repeat' first|refine aG ?_|with_reducible refine cA (Builder_String _ 0 _ tT (by simp only[aA,List.length_cons,List.length_nil];omega)) ?_|refine aF ?_ ?_<;>intro hw<;>try omega|fail
  rintro o σ2 ⟨rfl,_⟩;repeat' first|refine aG ?_|refine aF ?_ ?_<;>intro hw<;>try omega|fail
  refine aS ?_ rfl;simp[ji]
def Og{s:aI}(h:gK s=true): ∀ i,i<s.length->(s.getD i 0).toNat<128:=by
 intro i hi;simp only[gK,aq,aX]at h;have:=h.2 (s.getD i 0) (by rw[aj,aN hi];exact cU hi);rw[wB]at this;omega
def AS(v:ez)(h0 : -9223372036854775808<=v.n)(h1:v.n<=9223372036854775807)(hr:bZ v=true): aM aK 132 [fD v] (.bU [.str (dO v),I 0]):=by
 obtain⟨k,n,s⟩:=v;dsimp only at h0 h1;have c1:=q_ k n s h0 h1;rw[hr]at c1;simp only[nF,if_true]at c1;have c2:=strconv_Itoa n h0 h1
 have c3:k=2->aM aK 168 [.str s] (.str (ji s)):=fun hk=>by
  unfold bZ at hr;dsimp only at hr;rw[if_neg (by omega),if_neg (by omega),if_pos hk]at hr;simp only[aq]at hr;have hp:=hr.2;refine Qc s (Og hp) ?_;simp only[gK,aq,decide_eq_true_eq]at hp;omega
 have c4:=fun b=>strconv_FormatBool b;clear hr;have hS:dO ⟨k,n,s⟩=if k=1 then Lib.itoa n else if k=2 then ji s else if k=3 then(if n=1 then pD else mY)else AE:=rfl
 rw[hS];clear hS;generalize Lib.itoa n=t1 at *;generalize ji s=t2 at *;simp only[fD];by_cases k2:k=2
 ·have c5:=c3 k2;clear c3;subst k2;refine aR Bn ?_;intro Q aC aD aE;repeat' first|refine aG ?_|refine aF ?_ ?_<;>intro hw<;>try omega|fail
  all_goals (refine cj ?_ rfl;simp)
 ·clear c3;refine aR Bn ?_;intro Q aC aD aE;repeat' first|refine aG ?_|refine eU (c4 _) ?_|refine aF ?_ ?_<;>intro hw<;>try omega|fail
  all_goals (refine cj ?_ rfl;simp_all[pD,mY,AE])
