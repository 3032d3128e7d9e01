/- Part. -/
import Derived.Test.YtcjcnfcedihckaaGreatDoorW05
set_option linter.all false
namespace Go.AM
section
variable {P:Program} {g:aJ} {w:World} {σ : ae} {K:AV->ae->Prop}
def gM(g:aJ)(w:World)(el:El)(xs:List AV)(vs:Array Value): Prop :=
 ∀ i c,i<xs.length->c<el.sz->VR g w ((xs.getD i .undef).cell c) (vs.getD (i*el.sz+c) Go.undef)
def gM.mono{g g':aJ}{w w':World}{el:El}{xs:List AV}{vs:Array Value}(h:gM g w el xs vs)(hm:kp g w g' w'): gM g' w' el xs vs :=
 fun i c hi hc=>(h i c hi hc).mono hm
def mE{i c n s:Nat}(hi:i<n)(hc:c<s): i*s+c<n*s:=by
 calc i*s+c<i*s+s:=by omega
  _=(i+1)*s:=by rw[cL]
  _<=n*s:=aX _ hi
def gM.append {el : El} {xs ys : List AV} {vs us rest : Array Value} (h : gM g w el xs vs) (h' : gM g w el ys us) (hv : vs.size = xs.length * el.sz) (hu : us.size = ys.length * el.sz) :
    gM g w el (xs++ys) (vs++us++rest):=by
 intro i c hi hc;simp only[aA]at hi;by_cases h1:i<xs.length
 ·have h2:=mE h1 hc;have e1:(xs++ys).getD i .undef=xs.getD i .undef:=by simp[aC h1]
  have e2:(vs++us++rest).getD (i*el.sz+c) Go.undef=vs.getD (i*el.sz+c) Go.undef:=by
   have h3:i*el.sz+c<vs.size:=by omega
   have h4:i*el.sz+c<(vs++us).size:=by simp;omega
   simp[dS h3,dS h4]
  rw[e1,e2];exact h i c h1 hc
 ·obtain⟨j,rfl⟩:∃ j,i=xs.length+j:=⟨i-xs.length,by omega⟩;have hj:j<ys.length:=by omega
  have h2:=mE hj hc;have e1:(xs++ys).getD (xs.length+j) .undef=ys.getD j .undef:=by simp[bE]
  have e3:(xs.length+j)*el.sz+c=vs.size+(j*el.sz+c):=by rw[bz,hv];omega
  have e2:(vs++us++rest).getD ((xs.length+j)*el.sz+c) Go.undef=us.getD (j*el.sz+c) Go.undef:=by
   rw[e3];have h4:vs.size+(j*el.sz+c)<(vs++us).size:=by simp;omega
   rw[eC,dS h4,Array.getElem?_append_right (by omega)];simp
  rw[e1,e2];exact h' j c hj hc
def xw {b o n : Nat} (hc : ∀ c, c < n -> (w.cell? ⟨b, o + c, none⟩).isSome = true) (w2 : World) (hw : w2.heap = w.heap) :
    (loadCells ⟨b,o,none⟩ n).run P w2 = .ok (((List.range n).map fun c=>dw w ⟨b,o+c,none⟩).toArray) w2:=by
 have e:∀ a,w2.cell? a=w.cell? a:=fun a=>by simp only[World.cell?,hw]
 have:=run_loadCells (P:=P) (w:=w2) (b:=b) (o:=o) (fun c h=>by rw[e];exact hc c h) 0 #[] n (by omega);simpa[loadCells,List.range_eq_range',dw,e]using this
def mF {el : El} {x : AV} {v : Value} {K : List AV -> Prop} (hR : Rel g w σ) (hv : VR g w x v) (hK : fM σ el x K) :
    ∃ xs:List AV,∃ us:Array Value,K xs/\(Builtin.lenOf v).run P w = .ok xs.length w/\(∀ w2:World,w2.heap=w.heap->(Builtin.firstCells el.sz xs.length v).run P w2 = .ok us w2)/\us.size=xs.length*el.sz/\gM g w el xs us:=by
 cases hv<;>simp only[fM]at hK
 case str s =>
  obtain⟨rfl,hK⟩:=hK;have hs:(⟨s.toArray⟩:ByteArray).size=s.length:=List.size_toArray;refine⟨_,(s.map fun b=>Value.int .u8 b.toNat).toArray,hK,by simp[Builtin.lenOf,hs],fun w2 _=>?_,by simp,fun i c hi hc=>?_⟩
  ·have : (⟨s.toArray⟩ : ByteArray).extract 0 s.length = ⟨s.toArray⟩ := by
    apply ByteArray.ext;simp[ByteArray.data_extract]
   simp[Builtin.firstCells,this]
  ·have hc0:c=0:=by simp at hc;omega
   subst hc0;simp only[bY]at hi;simp[hi,AV.cell];exact .int _ _
 case au=>exact⟨[],#[],hK,rfl,fun _ _=>rfl,by simp,fun i c hi=>absurd hi (cE _)⟩
 case iB f bj b cap hf =>
  obtain⟨rfl,hK⟩:=hK;refine⟨[],#[],hK,rfl,fun w2 _=>?_,by simp,fun i c hi=>absurd hi (cE _)⟩;cases b with
  | none=>rfl
  | some b=>simp[Builtin.firstCells,loadCells,loadCellsFrom]
 case aO f bj xs b off cap hi hf hx ft hc h =>
  obtain⟨rfl,hK⟩:=hK
  have hcells:∀ c,c<xs.length*bj.sz->(w.cell? ⟨b,off+c,none⟩).isSome=true:=fun c fX=>by
   have hz:0<bj.sz:=by
    rcases Nat.eq_zero_or_pos bj.sz with e|e
    ·rw[e]at fX;simp at fX
    ·exact e
   have:=hc (c / bj.sz) (c % bj.sz) ((Nat.div_lt_iff_lt_mul hz).2 fX) (Nat.mod_lt _ hz);rwa[Nat.div_add_mod' c bj.sz]at this
  refine⟨xs,_,hK,rfl,xw hcells,by simp,fun i c hi' fX=>?_⟩;have h2:=mE hi' fX;simpa[h2]using h i c hi' fX
 case own bj l m lo n h =>
  obtain⟨rfl,hK⟩:=hK;obtain⟨q1,q2,A,cap,rfl,q3⟩:=h;split at hK
  ·rename_i bg xs hxs;obtain⟨rfl,rfl,hK⟩:=hK;obtain⟨o1,o2,o3⟩:=hR.ok l _ hxs;obtain⟨q4,q5,q6⟩:=q3 o1.symm;have hlen:((xs.drop lo).take n).length=n:=by simp;omega
   refine⟨(xs.drop lo).take n,?_⟩;rw[hlen];rcases Nat.eq_zero_or_pos n with rfl|hn
   ·refine⟨#[],hK,rfl,fun w2 _=>?_,by simp,fun i c hi=>by simp at hi⟩;cases A with
    | none=>rfl
    | some b=>simp[Builtin.firstCells,loadCells,loadCellsFrom]
   ·rcases o3 with⟨rfl,_,_⟩|⟨b,vs,b1,b2,b3,b4,b5,_⟩
    ·simp at q4;omega
    ·have q7:=q6 (by omega);rw[b1]at q7;simp only[aS]at q7;subst q7
     have hrow:g.off l+lo*bg.sz+n*bg.sz<=vs.size:=by
      have:lo*bg.sz+n*bg.sz<=g.cap l*bg.sz:=by rw[<-bz];exact aX _ (by omega)
      omega
     have hcells:∀ c,c<n*bg.sz->w.cell? ⟨b,g.off l+lo*bg.sz+c,none⟩=some (vs.getD (g.off l+lo*bg.sz+c) Go.undef):=fun c fX=>b2.cell (by omega);refine⟨_,hK,rfl,xw (fun c fX=>by rw[hcells c fX];rfl),by simp,fun i c hi' fX=>?_⟩;rw[hlen]at hi';have h2:=mE hi' fX;rw[gK hi']
     have e:(((List.range (n*bg.sz)).map fun c=>dw w ⟨b,g.off l+lo*bg.sz+c,none⟩).toArray).getD (i*bg.sz+c) Go.undef=vs.getD (g.off l+(lo+i)*bg.sz+c) Go.undef:=by
      rw[show g.off l+(lo+i)*bg.sz+c=g.off l+lo*bg.sz+(i*bg.sz+c) by rw[bz];omega];have:=hcells _ h2;simp[h2,dw,this]
     rw[e];exact b5 (lo+i) c (by omega) fX
  ·exact hK.elim
 case rW bj p n A cap hn hc h =>
  obtain⟨rfl,rfl,hK⟩:=hK;obtain⟨b,o,cs,rfl,h1,h2,h3,h4,h5⟩:=FU hR h hK;refine⟨cs,((List.range (n*1)).map fun c=>dw w ⟨b,o+c,none⟩).toArray,h3,by rw[h1];rfl,?_,by simp[h1],fun i c hi fX=>?_⟩
  ·rw[h1];exact xw (n:=n*1) (fun c hc=>h4 c (by omega))
  ·have hc0:c=0:=by simp at fX;omega
   subst hc0;have:=h5 i (by omega);have hi':i<n:=by omega
   have hsc:=vH h2 hi;have hcell:(cs.getD i .undef).cell 0=cs.getD i .undef:=by generalize cs.getD i .undef=z at hsc;cases z<;>first|rfl|(simp[AV.scalar]at hsc;done)
   rw[hcell];simpa[hi']using this
def r_ {el : El} {x : AV} {v : Value} {K : List AV -> Prop} (m : Nat) (hR : Rel g w σ) (hv : VR g w x v) (hK : fM σ el x K) :
    ∃ xs:List AV,∃ us:Array Value,K xs/\(Builtin.lenOf v).run P w = .ok xs.length w/\(Builtin.firstCells el.sz (min xs.length m) v).run P w = .ok us w/\us.size=min xs.length m*el.sz/\gM g w el (xs.take m) us:=by
 have rows:∀ {b o n:Nat} {xs:List AV},(∀ c,c<n*el.sz->(w.cell? ⟨b,o+c,none⟩).isSome=true)->n=min xs.length m->(∀ i c,i<xs.length->c<el.sz->VR g w ((xs.getD i .undef).cell c) (dw w ⟨b,o+(i*el.sz+c),none⟩)) ->
  ∃ us:Array Value,(loadCells ⟨b,o,none⟩ (min xs.length m*el.sz)).run P w = .ok us w/\us.size=min xs.length m*el.sz/\gM g w el (xs.take m) us:=by
  intro b o n xs hc hn h;subst hn;refine⟨_,xw hc w rfl,by simp,fun i c hi fX=>?_⟩;simp only[List.length_take]at hi;have Py:i<xs.length:=by omega
  have DP:i<min xs.length m:=by omega
  have h2:=mE DP fX;rw[show (xs.take m).getD i .undef=xs.getD i .undef by simp[show i<m by omega]];simpa[h2]using h i c Py fX
 cases hv<;>simp only[fM]at hK
 case str s =>
  obtain⟨rfl,hK⟩:=hK;have hs:(⟨s.toArray⟩:ByteArray).size=s.length:=List.size_toArray;refine⟨_,((s.take m).map fun b=>Value.int .u8 b.toNat).toArray,hK,by simp[Builtin.lenOf,hs],?_,by simp;omega,fun i c hi hc=>?_⟩
  ·have : (⟨s.toArray⟩ : ByteArray).extract 0 (min s.length m) = ⟨(s.take m).toArray⟩ := by
    apply ByteArray.ext;simp[ByteArray.data_extract,List.take_eq_take_iff];omega
   simp[Builtin.firstCells,this]
  ·have hc0:c=0:=by simp at hc;omega
   subst hc0;simp only[List.length_take,bY]at hi;have h1:i<s.length:=by omega
   have h2:i<m:=by omega
   simp[h1,h2,AV.cell];exact .int _ _
 case au=>exact⟨[],#[],hK,rfl,by simp[Builtin.firstCells],by simp,fun i c hi=>by simp at hi⟩
 case iB f bj b cap hf =>
  obtain⟨rfl,hK⟩:=hK;refine⟨[],#[],hK,rfl,?_,by simp,fun i c hi=>by simp at hi⟩;cases b with
  | none=>simp[Builtin.firstCells]
  | some b=>simp[Builtin.firstCells,loadCells,loadCellsFrom]
 case aO f bj xs b off cap hi hf hx ft hc h =>
  obtain⟨rfl,hK⟩:=hK
  have hcells:∀ c,c<min xs.length m*bj.sz->(w.cell? ⟨b,off+c,none⟩).isSome=true:=fun c fX=>by
   have hz:0<bj.sz:=by
    rcases Nat.eq_zero_or_pos bj.sz with e|e
    ·rw[e]at fX;simp at fX
    ·exact e
   have hle:min xs.length m*bj.sz<=xs.length*bj.sz:=aX _ (by omega);have:=hc (c / bj.sz) (c % bj.sz) ((Nat.div_lt_iff_lt_mul hz).2 (by omega)) (Nat.mod_lt _ hz);rwa[Nat.div_add_mod' c bj.sz]at this
  obtain⟨us,u1,u2,u3⟩:=rows hcells rfl h;exact⟨xs,us,hK,rfl,u1,u2,u3⟩
 case own bj l m' lo n h =>
  obtain⟨rfl,hK⟩:=hK;obtain⟨q1,q2,A,cap,rfl,q3⟩:=h;split at hK
  ·rename_i bg xs hxs;obtain⟨rfl,rfl,hK⟩:=hK;obtain⟨o1,o2,o3⟩:=hR.ok l _ hxs;obtain⟨q4,q5,q6⟩:=q3 o1.symm;have hlen:((xs.drop lo).take n).length=n:=by simp;omega
   rcases Nat.eq_zero_or_pos n with rfl|hn
   ·refine⟨(xs.drop lo).take 0,#[],hK,rfl,?_,by simp,fun i c hi=>by simp at hi⟩;cases A with
    | none=>simp[Builtin.firstCells]
    | some b=>simp[Builtin.firstCells,loadCells,loadCellsFrom]
   ·rcases o3 with⟨rfl,_,_⟩|⟨b,vs,b1,b2,b3,b4,b5,_⟩
    ·simp at q4;omega
    ·have q7:=q6 (by omega);rw[b1]at q7;simp only[aS]at q7;subst q7
     have hrow:g.off l+lo*bg.sz+n*bg.sz<=vs.size:=by
      have:lo*bg.sz+n*bg.sz<=g.cap l*bg.sz:=by rw[<-bz];exact aX _ (by omega)
      omega
     have hcells:∀ c,c<n*bg.sz->w.cell? ⟨b,g.off l+lo*bg.sz+c,none⟩=some (vs.getD (g.off l+lo*bg.sz+c) Go.undef):=fun c fX=>b2.cell (by omega);have hle:min n m*bg.sz<=n*bg.sz:=aX _ (by omega)
     obtain⟨us,u1,u2,u3⟩:=rows (xs:=(xs.drop lo).take n) (b:=b) (o:=g.off l+lo*bg.sz) (n:=min n m) (fun c fX=>by rw[hcells c (by omega)];rfl) (by rw[hlen]) (fun i c hi fX=>by
      rw[hlen]at hi;have h2:=mE hi fX;rw[gK hi]
      have e:dw w ⟨b,g.off l+lo*bg.sz+(i*bg.sz+c),none⟩=vs.getD (g.off l+(lo+i)*bg.sz+c) Go.undef:=by
       unfold dw;rw[hcells _ h2,show g.off l+lo*bg.sz+(i*bg.sz+c)=g.off l+(lo+i)*bg.sz+c by rw[bz];omega];rfl
      rw[e];exact b5 (lo+i) c (by omega) fX)
     rw[hlen]at u1 u2;exact⟨(xs.drop lo).take n,us,hK,by rw[hlen];rfl,by rw[hlen];exact u1,by rw[hlen];exact u2,u3⟩
  ·exact hK.elim
 case rW bj p n A cap hn hc h =>
  obtain⟨rfl,rfl,hK⟩:=hK;obtain⟨b,o,cs,rfl,h1,h2,h3,h4,h5⟩:=FU hR h hK
  obtain⟨us,u1,u2,u3⟩:=rows (xs:=cs) (b:=b) (o:=o) (n:=min cs.length m) (fun c fX=>h4 c (by simp at fX;omega)) rfl (fun i c hi fX=>by
   have hc0:c=0:=by simp at fX;omega
   subst hc0;have:=h5 i (by omega);have hsc:=vH h2 hi;have hcell:(cs.getD i .undef).cell 0=cs.getD i .undef:=by generalize cs.getD i .undef=z at hsc;cases z<;>first|rfl|(simp[AV.scalar]at hsc;done)
   rw[hcell];simpa using this)
  exact⟨cs,us,h3,by rw[h1];rfl,u1,u2,u3⟩
def Jl(need:Nat): ∀(r c:Nat),c<=2*need+512->Builtin.growBy need r c<=2*need+512
 | 0,c,h=>h
 | r + 1, c, h => by
   simp only[Builtin.growBy];split
   ·exact h
   ·exact Jl need r _ (by omega)
def Q8{need old:Nat}(h:old<need): Builtin.nextslicecap need old<=2*need+512:=by
 unfold Builtin.nextslicecap;split
 ·omega
 ·split
  ·omega
  ·exact Jl need 4 old (by omega)
def Y9{need old bytes sz:Nat}(h:old<need)(hb:bytes<=24*(sz+1))(hs:sz<=1000)(hr:need*(sz+1)<=2 ^ 40): ¬ Builtin.nextslicecap need old*bytes>2 ^ 48:=by
 have h1:=Q8 h;have h2:Builtin.nextslicecap need old*bytes<=(2*need+512)*(24*(sz+1)):=Nat.mul_le_mul h1 hb
 have h3:(2*need+512)*(24*(sz+1))=48*(need*(sz+1))+12288*(sz+1):=by
  rw[bz,show 2*need*(24*(sz+1))=48*(need*(sz+1)) by
   rw[Nat.mul_comm 2 need,Nat.mul_assoc,show 2*(24*(sz+1))=48*(sz+1) by omega,Nat.mul_left_comm]]
  omega
 have h4:48*(need*(sz+1))<=48*2 ^ 40:=Nat.mul_le_mul_left _ hr;have h5:(2:Nat) ^ 48=281474976710656:=by decide
 have h6:(2:Nat) ^ 40=1099511627776:=by decide
 omega
def Et {ats : Array TypeId} {r sT xT e : TypeId} {d : TypeDesc} {el : El} {base : Option Addr} {sLen sCap n : Nat} {x : Value} {olds news : Array Value}
    (h0:ats[0]? = some sT) (h1:ats[1]? = some xT) (hu:P.underlying sT=some (.slice e)) (hx:P.underlying xT=some d) (hd:∀ k,d≠ .int k) (he:iC P e=some el)
    (hl:(Builtin.lenOf x).run P w = .ok n w) (hc:sCap<sLen+n) (hr:(sLen+n)*(el.sz+1)<=2 ^ 40)
    (ho:∀ dr,(Builtin.firstCells el.sz sLen (.slice base sLen sCap)).run P { w with drawn:=dr } = .ok olds { w with drawn:=dr })
    (hn:∀ dr,(Builtin.firstCells el.sz n x).run P { w with drawn:=dr } = .ok news { w with drawn:=dr }) :
    ∃ cap rest dr, sLen + n <= cap /\ rest.size = (cap - (sLen + n)) * el.sz /\
      (Builtin.append_ ats r #[.slice base sLen sCap,x]).run P w = .ok (.slice (some ⟨w.heap.size,0,none⟩) (sLen+n) cap) (World.alloc { w with drawn:=dr } (.cells (olds++news++rest) e)):=by
 obtain⟨fi,hi,_,hs,_,hb,hsz,z,hz,hzs⟩:=gj he;have hroom:=Y9 (bytes:=fi.bytes) (old:=sCap) hc hb hsz hr;have hzv:∀ w,(zeroValue e).run P w = .ok z w:=fun w=>by simp[zeroValue,run_typeInfo hi,hz]
 let q:Question:= .appendCap (sLen+n) sCap e
 let cap:=q.cut (w.tape w.drawn q)
 refine⟨cap,Builtin.zeroCells z.cells (cap-(sLen+n)),w.drawn+1,by simp only[cap,q,Question.cut];omega,by simp[Builtin.zeroCells,hzs],?_⟩;have agq:(match d with | .int _=>true|_=>false)=false:=by cases d<;>first|rfl|exact absurd rfl (hd _)
 have hfalse:((d matches .int _):Bool)=false:=by cases d<;>first|rfl|exact absurd rfl (hd _)
 have acG:¬ (sLen+n<=sCap):=by omega
 have hbytes:fi.bytes=0->¬ (((sLen+n:Nat):Int)>IntKind.i64.max):=fun _=>by
  have:(sLen+n)*1<=(sLen+n)*(el.sz+1):=Nat.mul_le_mul_left _ (by omega);have h6:(2:Nat) ^ 40=1099511627776:=by decide
  have:IntKind.i64.max=9223372036854775807:=by decide
  omega
 have hb':¬ ((((sLen+n:Nat):Int)>IntKind.i64.max)/\fi.bytes=0):=fun h=>hbytes h.2 h.1;have afr:q.forced=false:=rfl;unfold Builtin.append_;simp only[eZ,eJ,dL,h0,h1,Sem.run_bind,aQ hu,Result.andThen_ok,cS hi,hs,aQ hx,Sem.run_pure,hfalse,hl,aB,if_false,if_neg acG,run_typeInfo hi,false_or,fS,if_true];rw[if_neg hb'];simp only[Sem.run_bind,run_typeInfo hi,Result.andThen_ok,if_neg hroom];rw[run_choose];simp only[show (Question.appendCap (sLen+n) sCap e).forced=false from rfl,aB,if_false,Result.andThen_ok,run_typeInfo hi,run_askRoom,ho,hn,hzv,newRow,Sem.run_bind,run_newObj,Sem.run_pure];rfl
def DQ {ats : Array TypeId} {r sT xT e : TypeId} {d : TypeDesc} {el : El} {b o : Nat} {sLen sCap n : Nat} {x : Value} {news vs : Array Value}
    (h0:ats[0]? = some sT) (h1:ats[1]? = some xT) (hu:P.underlying sT=some (.slice e)) (hx:P.underlying xT=some d) (hd:∀ k,d≠ .int k) (he:iC P e=some el)
    (hl:(Builtin.lenOf x).run P w = .ok n w) (hc:sLen+n<=sCap)
    (hn:(Builtin.firstCells el.sz n x).run P w = .ok news w) (hr:Row w b vs) (hsz:o+sLen*el.sz+news.size<=vs.size) (h1c:∀ u ∈ news.toList,u.oneCell'=true) :
    (Builtin.append_ ats r #[.slice (some ⟨b,o,none⟩) sLen sCap,x]).run P w = .ok (.slice (some ⟨b,o,none⟩) (sLen+n) sCap) (setRow w b (o+sLen*el.sz) news.toList):=by
 obtain⟨fi,hi,_,hs,_⟩:=gj he;have hfalse:((d matches .int _):Bool)=false:=by cases d<;>first|rfl|exact absurd rfl (hd _)
 have hst:=nE (P:=P) (b:=b) (o:=o+sLen*el.sz) news.toList w vs 0 hr (by simpa using hsz) h1c;unfold Builtin.append_;simp only[eZ,eJ,dL,h0,h1,Sem.run_bind,aQ hu,Result.andThen_ok,cS hi,hs,aQ hx,Sem.run_pure,hfalse,hl,aB,if_false,if_pos hc,hn,fS,if_true,add_plain];rw[hst];simp
def Bx {ats : Array TypeId} {r sT xT e : TypeId} {d : TypeDesc} {el : El} {sLen sCap n : Nat} {x : Value} {news : Array Value}
    (h0:ats[0]? = some sT) (h1:ats[1]? = some xT) (hu:P.underlying sT=some (.slice e)) (hx:P.underlying xT=some d) (hd:∀ k,d≠ .int k) (he:iC P e=some el)
    (hl:(Builtin.lenOf x).run P w = .ok n w) (hc:sLen+n<=sCap) (hn:(Builtin.firstCells el.sz n x).run P w = .ok news w) :
    (Builtin.append_ ats r #[.slice none sLen sCap,x]).run P w = .ok (.slice none (sLen+n) sCap) w:=by
 obtain⟨fi,hi,_,hs,_⟩:=gj he;have hfalse:((d matches .int _):Bool)=false:=by cases d<;>first|rfl|exact absurd rfl (hd _)
 unfold Builtin.append_;simp only[eZ,eJ,dL,h0,h1,Sem.run_bind,aQ hu,Result.andThen_ok,cS hi,hs,aQ hx,Sem.run_pure,hfalse,hl,aB,if_false,if_pos hc,hn,fS,if_true]
def oh{el:El}{xs:List AV}{us:Array Value}(h:gM g w el xs us)(hs:us.size=xs.length*el.sz)(hf:∀ i,i<xs.length->(xs.getD i .undef).fits el=true): ∀ u ∈ us.toList,u.oneCell'=true:=by
 intro u hu;obtain⟨k,hk,rfl⟩:=List.mem_iff_getElem.1 hu;simp only[ez]at hk
 have hz:0<el.sz:=by
  rcases Nat.eq_zero_or_pos el.sz with e|e
  ·rw[e]at hs;omega
  ·exact e
 have h1:k / el.sz<xs.length:=(Nat.div_lt_iff_lt_mul hz).2 (by omega);have h2:k % el.sz<el.sz:=Nat.mod_lt _ hz;have:=h _ _ h1 h2;rw[Nat.div_add_mod' k el.sz]at this
 have hsc:((xs.getD (k / el.sz) .undef).cell (k % el.sz)).scalar=true:=by
  have hft:=hf _ h1;generalize xs.getD (k / el.sz) .undef=y at hft
  cases y<;>simp only[AV.fits,Bool.and_eq_true,beq_iff_eq]at hft<;>first
   |(obtain⟨⟨_,q1⟩,q2⟩:=hft;exact vH q2 (by omega))
   | rfl
   | cases hft
 have:=this.C7 hsc;simpa[hk]using this
def xx {T : Option TypeId} {ats : Array TypeId} {r sT xT e : TypeId} {d : TypeDesc} {el : El} {x y : AV} {a b : Value} (hR : Rel g w σ)
    (h0:ats[0]? = some sT) (h1:ats[1]? = some xT) (hu:P.underlying sT=some (.slice e)) (hd':P.underlying xT=some d) (hd:∀ k,d≠ .int k) (he:iC P e=some el)
    (hx:VR g w x a) (hy:VR g w y b) (hT:T=none\/T=some e) (qy:oF σ T el x y K):bx P (Builtin.append_ ats r #[a,b]) g w σ K:=by
 obtain⟨ys,news,hK,hl,uD,hsz,hh⟩:=mF (P:=P) hR hy qy;clear qy;obtain⟨hfit,hK⟩:=hK
 have xy:∀ i,i<ys.length->(ys.getD i .undef).fits el=true:=fun i hi=>by
  have:=aW.1 hfit (ys[i]) (cQ _);simpa[hi]using this
 have h1c:=oh hh hsz xy;have hn:∀ dr,(Builtin.firstCells el.sz ys.length b).run P { w with drawn:=dr } = .ok news { w with drawn:=dr }:=fun dr=>uD _ rfl
 have hty:∀ (w1:World) (vs:Array Value),tB (World.alloc w1 (.cells vs e)) w1.heap.size vs.size T:=fun w1 vs=>by
  rcases hT with rfl|rfl
  ·trivial
  ·have:(World.alloc w1 (.cells vs e)).heap[w1.heap.size]? = some (.cells vs e):=heap_alloc_new w1 _;simp only[tB,World.shape?,this]
 have fresh:∀ (xs:List AV) (olds:Array Value) (base:Option Addr) (sCap:Nat),a = .slice base xs.length sCap->sCap<xs.length+ys.length->fJ (xs.length+ys.length) el ->
  (∀ dr,(Builtin.firstCells el.sz xs.length (.slice base xs.length sCap)).run P { w with drawn:=dr } = .ok olds { w with drawn:=dr }) ->
  olds.size=xs.length*el.sz->gM g w el xs olds->(∀ i,i<xs.length->(xs.getD i .undef).fits el=true) ->
  ∃ cap rest dr, xs.length + ys.length <= cap /\ rest.size = (cap - (xs.length + ys.length)) * el.sz /\ (olds ++ news ++ rest).size = cap * el.sz /\ gM g w el (xs ++ ys) (olds ++ news ++ rest) /\ (∀ i, i < (xs ++ ys).length -> ((xs ++ ys).getD i .undef).fits el = true) /\
    (Builtin.append_ ats r #[a,b]).run P w = .ok (.slice (some ⟨w.heap.size,0,none⟩) (xs.length+ys.length) cap) (World.alloc { w with drawn:=dr } (.cells (olds++news++rest) e)):=by
  intro xs olds base sCap ha hc hr ho hos hoh hof;obtain⟨cap,rest,dr,k1,k2,k3⟩:=Et (P:=P) (r:=r) h0 h1 hu hd' hd he hl hc hr ho hn;refine⟨cap,rest,dr,k1,k2,?_,hoh.append hh hos hsz,fun i hi=>?_,by rw[ha];exact k3⟩
  ·simp only[Array.size_append,hos,hsz,k2];rw[<-bz,<-bz]
   congr 1
   omega
  ·simp only[aA]at hi;by_cases h:i<xs.length
   ·have:=hof i h;simpa[aC h]using this
   ·obtain⟨j,rfl⟩:∃ j,i=xs.length+j:=⟨i-xs.length,by omega⟩;have:=xy j (by omega);simpa[bE]using this
 have pushed:∀ (zs:List AV) (vs:Array Value) (cap dr:Nat),zs.length<=cap->vs.size=cap*el.sz->gM g w el zs vs->(∀ i,i<zs.length->(zs.getD i .undef).fits el=true) ->
  ∃ g', Rel g' (World.alloc { w with drawn := dr } (.cells vs e)) (σ ++ [.cy T el zs]) /\ fg σ g w (σ ++ [.cy T el zs]) g' (World.alloc { w with drawn := dr } (.cells vs e)) /\
    VR g' (World.alloc { w with drawn:=dr } (.cells vs e)) (.own el σ.length zs.length 0 zs.length) (.slice (some ⟨w.heap.size,0,none⟩) zs.length cap):=by
  intro zs vs cap dr k1 k2 k3 k4;have kJ:=hR.drew dr;have hm:=jV g { w with drawn:=dr } (.cells vs e) zs.length (some w.heap.size) cap kJ.lt
  obtain⟨r1,r2⟩:=kJ.oU (.cells vs e) (.cy T el zs) zs.length cap
   ⟨by simp[aJ.push],k4,.inr ⟨w.heap.size,vs,by simp[aJ.push],mB _ vs e,by simp[aJ.push,k2],by simp[aJ.push,k1],fun i c hi hc=>by simp only[aJ.push,if_true,bV];exact((k3 i c hi hc).mono (fg.drew σ g w dr).mono).mono hm,by simp only[aJ.push,if_true];exact(hty _ _).v⟩⟩
  refine⟨_,r1,(fg.drew σ g w dr).trans r2,.own _ _ _ _ _ _ ⟨by simp[aJ.push,hR.len],by simp[aJ.push,hR.len],_,_,rfl,fun _=>⟨by omega,by simp[aJ.push,hR.len],fun _=>by simp[aJ.push,hR.len]⟩⟩⟩
 cases hx<;>(try exact False.elim hK)
 case au =>
  simp only at hK;split at hK
  ·rename_i hz;refine⟨.slice none 0 0,w,g,.au,σ,?_,hR,.refl _ _ _,.au,hK⟩;have:=Bx (P:=P) (r:=r) (sLen:=0) (sCap:=0) h0 h1 hu hd' hd he hl (by omega) (uD w rfl);rw[this];simp[hz]
  ·rename_i hz;obtain⟨hr,hK⟩:=hK;obtain⟨cap,rest,dr,k1,k2,k3,k4,k5,k6⟩:=fresh [] #[] none 0 rfl (by simp;omega) (by simpa using hr) (fun _=>rfl) (by simp) (fun i c hi=>absurd hi (cE _)) (fun i hi=>absurd hi (cE _));simp only[cP,List.length_nil,bV]at k1 k4 k5 k6;obtain⟨g',r1,r2,r3⟩:=pushed ys _ cap dr k1 k3 k4 k5;exact⟨_,_,g',_,_,k6,r1,r2,r3,hK⟩
 case iB f bj base cap hf =>
  cases f with
  | false=>exact hK.elim
  | true =>
    obtain⟨rfl,hK⟩:=hK;have hcap:cap=0:=hf rfl;subst hcap;split at hK
    ·rename_i hz;refine⟨.slice base 0 0,w,g,.aO true bj [],σ,?_,hR,.refl _ _ _,.iB _ _ _ _ hf,hK⟩;cases base with
     | none =>
       have:=Bx (P:=P) (r:=r) (sLen:=0) (sCap:=0) h0 h1 hu hd' hd he hl (by omega) (uD w rfl);rw[this];simp[hz]
     | some A =>
       obtain⟨fi,hi,_,hs,_⟩:=gj he;have hfalse:((d matches .int _):Bool)=false:=by cases d<;>first|rfl|exact absurd rfl (hd _)
       have hne:news = #[]:=by rw[hz]at hsz;exact eL (by simpa using hsz)
       have zA:=uD w rfl;rw[hne,hz]at zA;rw[hz]at hl;unfold Builtin.append_;simp only[eZ,eJ,dL,h0,h1,Sem.run_bind,aQ hu,Result.andThen_ok,cS hi,hs,aQ hd',Sem.run_pure,hfalse,hl,aB,if_false,di,Nat.le_refl,if_true,zA,fS];simp[storeCells]
    ·rename_i hz;obtain⟨hr,hK⟩:=hK;obtain⟨cap,rest,dr,k1,k2,k3,k4,k5,k6⟩:=fresh [] #[] base 0 rfl (by simp;omega) (by simpa using hr) (fun _=>by cases base<;>simp[Builtin.firstCells,loadCells,loadCellsFrom]) (by simp) (fun i c hi=>absurd hi (Nat.not_lt_zero _)) (fun i hi=>absurd hi (Nat.not_lt_zero _));simp only[cP,List.length_nil,bV]at k1 k4 k5 k6 hK;obtain⟨g',r1,r2,r3⟩:=pushed ys _ cap dr k1 k3 k4 k5;exact⟨_,_,g',_,_,k6,r1,r2,r3,hK⟩
 case aO f bj xs b' off cap yF hf AJ ft hc h =>
  cases f with
  | false=>exact hK.elim
  | true =>
    obtain⟨rfl,hK⟩:=hK;have hcap:cap=xs.length:=hf rfl;subst hcap;have sj:VR g w (.aO true bj xs) (.slice (some ⟨b',off,none⟩) xs.length xs.length):= .aO true bj xs b' off _ yF hf AJ ft hc h;split at hK
    ·rename_i hz;refine⟨.slice (some ⟨b',off,none⟩) xs.length xs.length,w,g,.aO true bj xs,σ,?_,hR,.refl _ _ _,sj,hK⟩;obtain⟨fi,hi,_,hs,_⟩:=gj he;have hfalse:((d matches .int _):Bool)=false:=by cases d<;>first|rfl|exact absurd rfl (hd _)
     have hne:news = #[]:=by rw[hz]at hsz;exact eL (by simpa using hsz)
     have zA:=uD w rfl;rw[hne,hz]at zA;rw[hz]at hl;unfold Builtin.append_;simp only[eZ,eJ,dL,h0,h1,Sem.run_bind,aQ hu,Result.andThen_ok,cS hi,hs,aQ hd',Sem.run_pure,hfalse,hl,aB,if_false,di,Nat.le_refl,if_true,zA,fS];simp[storeCells]
    ·rename_i hz;obtain⟨hr,hK⟩:=hK;obtain⟨xs',olds,q1,q2,q3,q4,q5⟩:=mF (P:=P) (K:=fun zs=>zs=xs) (el:=bj) hR sj (by simp[fM]);subst q1;obtain⟨cap,rest,dr,k1,k2,k3,k4,k5,k6⟩:=fresh xs' olds _ xs'.length rfl (by omega) hr (fun _=>q3 _ rfl) q4 q5 ft;obtain⟨g',r1,r2,r3⟩:=pushed (xs'++ys) _ cap dr (by simpa using k1) k3 k4 k5;simp only[aA]at r3;exact⟨_,_,g',_,_,k6,r1,r2,r3,hK⟩
 case own bj l m lo n h =>
  obtain⟨rfl,hK⟩:=hK;have sj:VR g w (.own bj l m lo n) a:= .own _ _ _ _ _ _ h;obtain⟨q1,q2,A,cap,rfl,q3⟩:=h;split at hK
  ·rename_i T' bg xs hxs;obtain⟨hTT,rfl,rfl,rfl,rfl,hr,hK⟩:=hK;obtain⟨o1,o2,o3⟩:=hR.ok l _ hxs;obtain⟨q4,q5,q6⟩:=q3 o1.symm;by_cases hc:xs.length+ys.length<=cap
   ·
    rcases Nat.eq_zero_or_pos ys.length with hz|hz
    ·
     have hne:news = #[]:=by rw[hz]at hsz;exact eL (by simpa using hsz)
     have hys:ys=[]:=eR hz;subst hys
     have tE : σ.set l (.cy T' bg xs) = σ:=by
      apply List.ext_getElem?;intro k;by_cases e:k=l
      ·subst e;rw[List.getElem?_set_self (by have:=(aN.1 hxs).1;exact this)];exact hxs.symm
      ·rw[List.getElem?_set_ne (Ne.symm e)]
     simp only[List.length_nil,di,bS,tE]at hK;refine⟨.slice A xs.length cap,w,g,.own bg l xs.length 0 xs.length,σ,?_,hR,.refl _ _ _,sj,hK⟩;obtain⟨fi,hi,_,hs,_⟩:=gj he;have hfalse:((d matches .int _):Bool)=false:=by cases d<;>first|rfl|exact absurd rfl (hd _)
     have zA:=uD w rfl;rw[hne]at zA;simp only[List.length_nil,di]at hc zA hl;unfold Builtin.append_;simp only[eZ,eJ,dL,h0,h1,Sem.run_bind,aQ hu,Result.andThen_ok,cS hi,hs,aQ hd',Sem.run_pure,hfalse,hl,aB,if_false,di,if_pos hc,zA,fS,if_true];cases A<;>simp[storeCells]
    ·rcases o3 with⟨rfl,o4,o5⟩|⟨b',vs,b1,b2,b3,b4,b5,b6⟩
     ·simp at q5 hc;omega
     ·have q7:=q6 (by omega);rw[b1]at q7;simp only[aS]at q7;subst q7;have acH:g.cap l=cap:=by omega
      have hroom:g.off l+(xs.length+ys.length)*bg.sz<=vs.size:=by rw[b3,acH];exact Nat.add_le_add_left (aX _ hc) _
      rw[bz]at hroom;have hrun:=DQ (P:=P) (r:=r) (b:=b') (o:=g.off l+0*bg.sz) (sLen:=xs.length) h0 h1 hu hd' hd he hl hc (uD w rfl) b2 (by omega) h1c;obtain⟨f1,f2,f3,f4,f5⟩:=nA w b' (g.off l+0*bg.sz+xs.length*bg.sz) news.toList
      obtain⟨r1,r2⟩:=hR.change (o':= .cy T' bg (xs++ys)) (w':=setRow w b' (g.off l+0*bg.sz+xs.length*bg.sz) news.toList) hxs rfl (xs.length+ys.length) (some b') (g.cap l) (g.off l) (by omega) (fun e=>by omega) (by omega) f2 f3 f4
       (fun c kH hne=>f5 c (fun e=>hne (e ▸ b1))) (fun c kH=> .inl (by rw[b1,kH]))
       (fun hm => ⟨by simp [aJ.reset], fun i hi => by
         simp only[aA]at hi;by_cases h:i<xs.length
         ·have:=o2 i h;simpa[aC h]using this
         ·obtain⟨j,rfl⟩:∃ j,i=xs.length+j:=⟨i-xs.length,by omega⟩;have:=xy j (by omega);simpa[bE]using this,
         .inr ⟨b',_,by simp[aJ.reset],b2.setRow _ _,by rw[size_putRow];simp[aJ.reset,b3],by simp[aJ.reset];omega,fun i c hi kH=>by
          simp only[aA]at hi;rw[show (g.reset l (xs.length+ys.length) (some b') (g.cap l) (g.off l)).off l=g.off l from by simp[aJ.reset]];rw[lM _ _ _ (by simp;omega)];simp only[ez,hsz];by_cases h:i<xs.length
          ·have h2:=mE h kH;rw[if_neg (by omega),show(xs++ys).getD i .undef=xs.getD i .undef by simp[aC h]];exact(b5 i c h kH).mono hm
          ·obtain⟨j,rfl⟩:∃ j,i=xs.length+j:=⟨i-xs.length,by omega⟩;have hj:j<ys.length:=by omega
           have h2:=mE hj kH
           rw[bz,if_pos (by omega),show(xs++ys).getD (xs.length+j) .undef=ys.getD j .undef by simp[bE],
            show g.off l+(xs.length*bg.sz+j*bg.sz)+c-(g.off l+0*bg.sz+xs.length*bg.sz)=j*bg.sz+c by omega]
           have:=(hh j c hj kH).mono hm;have h3:j*bg.sz+c<news.size:=by omega
           simpa[h3]using this,by
          cases T' with
          | none=>trivial
          | some T'=>simp only[aJ.reset,if_true];rw[size_putRow];exact⟨(oV _ _ _ _ _).trans b6.1,b6.2⟩⟩⟩)
      refine⟨_,_,_,_,_,hrun,r1,r2,.own _ _ _ _ _ _ ⟨by simp[aJ.reset];exact q1,by simp[aJ.reset],_,_,rfl,fun _=>⟨by omega,by simp[aJ.reset];omega,fun _=>by simp[aJ.reset]⟩⟩,hK⟩
   ·
    obtain⟨xs',olds,p1,p2,p3,p4,p5⟩:=mF (P:=P) (K:=fun zs=>zs=xs) (el:=bg) hR sj (by simp[fM,hxs]);subst p1;obtain⟨cap',rest,dr,k1,k2,k3,k4,k5,k6⟩:=fresh xs' olds A cap rfl (by omega) hr (fun _=>p3 _ rfl) p4 p5 o2;have kJ:=hR.drew dr
    obtain⟨r1,r2⟩:=kJ.change (o':= .cy T' bg (xs'++ys)) (w':=World.alloc { w with drawn:=dr } (.cells (olds++news++rest) e)) hxs rfl (xs'.length+ys.length) (some w.heap.size) cap' 0 (by omega)
     (fun e => by
       have hys:ys.length=0:=by omega
       have:¬ (xs'.length<=cap):=by omega
       have:xs'.length<=g.cap l:=by
        rcases o3 with⟨rfl,_,_⟩|⟨b',vs,b1,b2,b3,b4,b5⟩
        ·exact bR _
        ·exact b4
       omega) (by simp) rfl rfl rfl
     (fun c kH _=>heap_alloc_old _ _ kH) (fun c kH=> .inr (by cases kH;exact Nat.le_refl _))
     (fun hm => ⟨by simp [aJ.reset], k5, .inr ⟨w.heap.size, _, by simp [aJ.reset], mB { w with drawn := dr } _ e, by simp only [aJ.reset, if_true, bV]; exact k3, by simp [aJ.reset]; exact k1, fun i c hi kH => by simp only [aJ.reset, if_true, bV]; exact ((k4 i c hi kH).mono (fg.drew σ g w dr).mono).mono hm, by
       simp only[aJ.reset,if_true];rcases hTT with rfl|rfl
       ·trivial
       ·exact(hty { w with drawn:=dr } _).v⟩⟩)
    refine⟨_,_,_,_,_,k6,r1,(fg.drew σ g w dr).trans r2,.own _ _ _ _ _ _ ⟨by simp[aJ.reset];exact q1,by simp[aJ.reset],_,_,rfl,fun _=>⟨by omega,by simp[aJ.reset],fun _=>by simp[aJ.reset]⟩⟩,hK⟩
  ·exact hK.elim
def N9 {T : Option TypeId} {ats : Array TypeId} {r sT xT e : TypeId} {d : TypeDesc} {el : El} {x y : AV} {a b : Value} {n : Nat} {ys : List AV} (hR : Rel g w σ)
    (h0:ats[0]? = some sT) (h1:ats[1]? = some xT) (hu:P.underlying sT=some (.slice e)) (hd':P.underlying xT=some d) (hd:∀ k,d≠ .int k) (he:iC P e=some el)
    (hx:VR g w x a) (hy:VR g w y b) (hT:T=none\/T=some e) (hn : σ[n]? = some .resv) (hys:QL el y=some ys) (hx0:QK el x=true) (hfit:ys.all (fun a=>a.fits el)=true) (hroom:fJ ys.length el)
    (hK:K (.own el n ys.length 0 ys.length) (σ.set n (.cy T el ys))):bx P (Builtin.append_ ats r #[a,b]) g w σ K:=by
 obtain⟨r1,r2⟩:=hR.YX hn T el;obtain⟨v0,b0,c0,_⟩:=hR.ok n _ hn;have hlt:=(aN.1 hn).1
 have hx':VR g w (.own el n 0 0 0) a:=by
  have:∃ base,a = .slice base 0 0:=by
   cases hx<;>simp only[QK]at hx0<;>(try (cases hx0;done))
   case au=>exact⟨none,rfl⟩
   case iB f bj b cap hf =>
    cases f with
    | false=>cases hx0
    | true=>exact⟨b,by rw[hf rfl]⟩
   case aO f bj xs b off cap hi hf hx ft hc h =>
    cases f with
    | false=>cases hx0
    | true =>
      simp only[aq,List.isEmpty_iff]at hx0;obtain⟨_,rfl⟩:=hx0;exact⟨_,by rw[hf rfl];rfl⟩
  obtain⟨base,rfl⟩:=this;refine .own _ _ _ _ _ _ ⟨by rw[<-hR.len];exact hlt,bR _,base,0,rfl,fun _=>⟨Nat.le_refl _,by rw[c0],fun h=>by rw[c0]at h;exact absurd h (gx _)⟩⟩
 have hA:oF (σ.set n (.cy T el [])) T el (.own el n 0 0 0) y K:=by
  have tE:(σ.set n (.cy T el []))[n]? = some (.cy T el []):=List.getElem?_set_self hlt
  have key:ys.all (fun a=>a.fits el)=true/\(el=el/\match (σ.set n (.cy T el []))[n]? with
   | some (.cy T' bg xs) => (T' = none \/ T' = T) /\ bg = el /\ 0 = xs.length /\ 0 = 0 /\ 0 = xs.length /\ fJ (xs.length + ys.length) el /\
     K (.own el n (xs.length+ys.length) 0 (xs.length+ys.length)) ((σ.set n (.cy T el [])).set n (.cy T' el (xs++ys)))
   | _=>False):=by
   refine⟨hfit,rfl,?_⟩;rw[tE];refine⟨.inr rfl,rfl,rfl,rfl,rfl,by simpa using hroom,?_⟩;simpa[bA]using hK
  unfold oF fM;cases y<;>simp only[QL]at hys<;>(try (cases hys;done))
  ·cases hys;exact key
  ·split at hys
   ·rename_i h;cases hys;exact⟨h,key⟩
   ·cases hys
 obtain⟨v,w',g',av,σ',q1,q2,q3,q4,q5⟩:=xx r1 h0 h1 hu hd' hd he hx' hy hT hA;exact⟨v,w',g',av,σ',q1,q2,r2.trans q3,q4,q5⟩
end
