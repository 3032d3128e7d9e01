/- Part. -/
import Derived.Test.YtcjcnfcedihckaaGreatDoorW05
set_option linter.all false
namespace Go.AM
section
variable {P:Program} {g:aJ} {w:World} {σ : ae} {K:AV->ae->Prop}
def ic(g:aJ)(w:World)(el:El)(xs:List AV)(vs:Array Value): Prop :=
 ∀ i c,i<xs.length->c<el.sz->VR g w ((xs.getD i .undef).cell c) (vs.getD (i*el.sz+c) Go.undef)
def ic.mono{g g':aJ}{w w':World}{el:El}{xs:List AV}{vs:Array Value}(h:ic g w el xs vs)(hm:kK g w g' w'): ic g' w' el xs vs :=
 fun i c hi hc=>(h i c hi hc).mono hm
def mS{i c n s:Nat}(hi:i<n)(hc:c<s): i*s+c<n*s:=by
 calc i*s+c<i*s+s:=by omega
  _=(i+1)*s:=by rw[cM]
  _<=n*s:=aY _ hi
def ic.append {el : El} {xs ys : List AV} {vs us rest : Array Value} (h : ic g w el xs vs) (h' : ic g w el ys us) (hv : vs.size = xs.length * el.sz) (hu : us.size = ys.length * el.sz) :
    ic g w el (xs++ys) (vs++us++rest):=by
 intro i c hi hc;simp only[aA]at hi;by_cases h1:i<xs.length
 ·have h2:=mS h1 hc;have e1:(xs++ys).getD i .undef=xs.getD i .undef:=by simp[aH h1]
  have e2:(vs++us++rest).getD (i*el.sz+c) Go.undef=vs.getD (i*el.sz+c) Go.undef:=by
   have h3:i*el.sz+c<vs.size:=by omega
   have h4:i*el.sz+c<(vs++us).size:=by simp;omega
   simp[eo h3,eo h4]
  rw[e1,e2];exact h i c h1 hc
 ·obtain⟨j,rfl⟩:∃ j,i=xs.length+j:=⟨i-xs.length,by omega⟩;have hj:j<ys.length:=by omega
  have h2:=mS hj hc;have e1:(xs++ys).getD (xs.length+j) .undef=ys.getD j .undef:=by simp[bL]
  have e3:(xs.length+j)*el.sz+c=vs.size+(j*el.sz+c):=by rw[bE,hv];omega
  have e2:(vs++us++rest).getD ((xs.length+j)*el.sz+c) Go.undef=us.getD (j*el.sz+c) Go.undef:=by
   rw[e3];have h4:vs.size+(j*el.sz+c)<(vs++us).size:=by simp;omega
   rw[eH,eo h4,Array.getElem?_append_right (by omega)];simp
  rw[e1,e2];exact h' j c hj hc
def xY {b o n : Nat} (hc : ∀ c, c < n -> (w.cell? ⟨b, o + c, none⟩).isSome = true) (w2 : World) (hw : w2.heap = w.heap) :
    (loadCells ⟨b,o,none⟩ n).run P w2 = .ok (((List.range n).map fun c=>dD w ⟨b,o+c,none⟩).toArray) w2:=by
 have e:∀ a,w2.cell? a=w.cell? a:=fun a=>by simp only[World.cell?,hw]
 have:=run_loadCells (P:=P) (w:=w2) (b:=b) (o:=o) (fun c h=>by rw[e];exact hc c h) 0 #[] n (by omega);simpa[loadCells,List.range_eq_range',dD,e]using this
def mT {el : El} {x : AV} {v : Value} {K : List AV -> Prop} (hR : Rel g w σ) (hv : VR g w x v) (hK : fP σ el x K) :
    ∃ xs:List AV,∃ us:Array Value,K xs/\(Builtin.lenOf v).run P w = .ok xs.length w/\(∀ w2:World,w2.heap=w.heap->(Builtin.firstCells el.sz xs.length v).run P w2 = .ok us w2)/\us.size=xs.length*el.sz/\ic g w el xs us:=by
 cases hv<;>simp only[fP]at hK
 case str s =>
  obtain⟨rfl,hK⟩:=hK;have hs:(⟨s.toArray⟩:ByteArray).size=s.length:=List.size_toArray;refine⟨_,(s.map fun b=>Value.int .u8 b.toNat).toArray,hK,by simp[Builtin.lenOf,hs],fun w2 _=>?_,by simp,fun i c hi hc=>?_⟩
  ·have : (⟨s.toArray⟩ : ByteArray).extract 0 s.length = ⟨s.toArray⟩ := by
    apply ByteArray.ext;simp[ByteArray.data_extract]
   simp[Builtin.firstCells,this]
  ·have hc0:c=0:=by simp at hc;omega
   subst hc0;simp only[bt]at hi;simp[hi,AV.cell];exact .int _ _
 case au=>exact⟨[],#[],hK,rfl,fun _ _=>rfl,by simp,fun i c hi=>absurd hi (cG _)⟩
 case iO f bq b cap hf =>
  obtain⟨rfl,hK⟩:=hK;refine⟨[],#[],hK,rfl,fun w2 _=>?_,by simp,fun i c hi=>absurd hi (cG _)⟩;cases b with
  | none=>rfl
  | some b=>simp[Builtin.firstCells,loadCells,loadCellsFrom]
 case aO f bq xs b off cap hi hf hx ft hc h =>
  obtain⟨rfl,hK⟩:=hK
  have hcells:∀ c,c<xs.length*bq.sz->(w.cell? ⟨b,off+c,none⟩).isSome=true:=fun c gy=>by
   have hz:0<bq.sz:=by
    rcases Nat.eq_zero_or_pos bq.sz with e|e
    ·rw[e]at gy;simp at gy
    ·exact e
   have:=hc (c / bq.sz) (c % bq.sz) ((Nat.div_lt_iff_lt_mul hz).2 gy) (Nat.mod_lt _ hz);rwa[Nat.div_add_mod' c bq.sz]at this
  refine⟨xs,_,hK,rfl,xY hcells,by simp,fun i c hi' gy=>?_⟩;have h2:=mS hi' gy;simpa[h2]using h i c hi' gy
 case own bq l m lo n h =>
  obtain⟨rfl,hK⟩:=hK;obtain⟨q1,q2,A,cap,rfl,q3⟩:=h;split at hK
  ·rename_i bj xs hxs;obtain⟨rfl,rfl,hK⟩:=hK;obtain⟨o1,o2,o3⟩:=hR.ok l _ hxs;obtain⟨q4,q5,q6⟩:=q3 o1.symm;have hlen:((xs.drop lo).take n).length=n:=by simp;omega
   refine⟨(xs.drop lo).take n,?_⟩;rw[hlen];rcases Nat.eq_zero_or_pos n with rfl|hn
   ·refine⟨#[],hK,rfl,fun w2 _=>?_,by simp,fun i c hi=>by simp at hi⟩;cases A with
    | none=>rfl
    | some b=>simp[Builtin.firstCells,loadCells,loadCellsFrom]
   ·rcases o3 with⟨rfl,_,_⟩|⟨b,vs,b1,b2,b3,b4,b5,_⟩
    ·simp at q4;omega
    ·have q7:=q6 (by omega);rw[b1]at q7;simp only[aT]at q7;subst q7
     have hrow:g.off l+lo*bj.sz+n*bj.sz<=vs.size:=by
      have:lo*bj.sz+n*bj.sz<=g.cap l*bj.sz:=by rw[<-bE];exact aY _ (by omega)
      omega
     have hcells:∀ c,c<n*bj.sz->w.cell? ⟨b,g.off l+lo*bj.sz+c,none⟩=some (vs.getD (g.off l+lo*bj.sz+c) Go.undef):=fun c gy=>b2.cell (by omega);refine⟨_,hK,rfl,xY (fun c gy=>by rw[hcells c gy];rfl),by simp,fun i c hi' gy=>?_⟩;rw[hlen]at hi';have h2:=mS hi' gy;rw[ia hi']
     have e:(((List.range (n*bj.sz)).map fun c=>dD w ⟨b,g.off l+lo*bj.sz+c,none⟩).toArray).getD (i*bj.sz+c) Go.undef=vs.getD (g.off l+(lo+i)*bj.sz+c) Go.undef:=by
      rw[show g.off l+(lo+i)*bj.sz+c=g.off l+lo*bj.sz+(i*bj.sz+c) by rw[bE];omega];have:=hcells _ h2;simp[h2,dD,this]
     rw[e];exact b5 (lo+i) c (by omega) gy
  ·exact hK.elim
 case sK bq p n A cap hn hc h =>
  obtain⟨rfl,rfl,hK⟩:=hK;obtain⟨b,o,cs,rfl,h1,h2,h3,h4,h5⟩:=GG hR h hK;refine⟨cs,((List.range (n*1)).map fun c=>dD w ⟨b,o+c,none⟩).toArray,h3,by rw[h1];rfl,?_,by simp[h1],fun i c hi gy=>?_⟩
  ·rw[h1];exact xY (n:=n*1) (fun c hc=>h4 c (by omega))
  ·have hc0:c=0:=by simp at gy;omega
   subst hc0;have:=h5 i (by omega);have hi':i<n:=by omega
   have hsc:=wj h2 hi;have hcell:(cs.getD i .undef).cell 0=cs.getD i .undef:=by generalize cs.getD i .undef=z at hsc;cases z<;>first|rfl|(simp[AV.scalar]at hsc;done)
   rw[hcell];simpa[hi']using this
def sR {el : El} {x : AV} {v : Value} {K : List AV -> Prop} (m : Nat) (hR : Rel g w σ) (hv : VR g w x v) (hK : fP σ el x K) :
    ∃ xs:List AV,∃ us:Array Value,K xs/\(Builtin.lenOf v).run P w = .ok xs.length w/\(Builtin.firstCells el.sz (min xs.length m) v).run P w = .ok us w/\us.size=min xs.length m*el.sz/\ic g w el (xs.take m) us:=by
 have rows:∀ {b o n:Nat} {xs:List AV},(∀ c,c<n*el.sz->(w.cell? ⟨b,o+c,none⟩).isSome=true)->n=min xs.length m->(∀ i c,i<xs.length->c<el.sz->VR g w ((xs.getD i .undef).cell c) (dD w ⟨b,o+(i*el.sz+c),none⟩)) ->
  ∃ us:Array Value,(loadCells ⟨b,o,none⟩ (min xs.length m*el.sz)).run P w = .ok us w/\us.size=min xs.length m*el.sz/\ic g w el (xs.take m) us:=by
  intro b o n xs hc hn h;subst hn;refine⟨_,xY hc w rfl,by simp,fun i c hi gy=>?_⟩;simp only[List.length_take]at hi;have Kr:i<xs.length:=by omega
  have Ev:i<min xs.length m:=by omega
  have h2:=mS Ev gy;rw[show (xs.take m).getD i .undef=xs.getD i .undef by simp[show i<m by omega]];simpa[h2]using h i c Kr gy
 cases hv<;>simp only[fP]at hK
 case str s =>
  obtain⟨rfl,hK⟩:=hK;have hs:(⟨s.toArray⟩:ByteArray).size=s.length:=List.size_toArray;refine⟨_,((s.take m).map fun b=>Value.int .u8 b.toNat).toArray,hK,by simp[Builtin.lenOf,hs],?_,by simp;omega,fun i c hi hc=>?_⟩
  ·have : (⟨s.toArray⟩ : ByteArray).extract 0 (min s.length m) = ⟨(s.take m).toArray⟩ := by
    apply ByteArray.ext;simp[ByteArray.data_extract,List.take_eq_take_iff];omega
   simp[Builtin.firstCells,this]
  ·have hc0:c=0:=by simp at hc;omega
   subst hc0;simp only[List.length_take,bt]at hi;have h1:i<s.length:=by omega
   have h2:i<m:=by omega
   simp[h1,h2,AV.cell];exact .int _ _
 case au=>exact⟨[],#[],hK,rfl,by simp[Builtin.firstCells],by simp,fun i c hi=>by simp at hi⟩
 case iO f bq b cap hf =>
  obtain⟨rfl,hK⟩:=hK;refine⟨[],#[],hK,rfl,?_,by simp,fun i c hi=>by simp at hi⟩;cases b with
  | none=>simp[Builtin.firstCells]
  | some b=>simp[Builtin.firstCells,loadCells,loadCellsFrom]
 case aO f bq xs b off cap hi hf hx ft hc h =>
  obtain⟨rfl,hK⟩:=hK
  have hcells:∀ c,c<min xs.length m*bq.sz->(w.cell? ⟨b,off+c,none⟩).isSome=true:=fun c gy=>by
   have hz:0<bq.sz:=by
    rcases Nat.eq_zero_or_pos bq.sz with e|e
    ·rw[e]at gy;simp at gy
    ·exact e
   have hle:min xs.length m*bq.sz<=xs.length*bq.sz:=aY _ (by omega);have:=hc (c / bq.sz) (c % bq.sz) ((Nat.div_lt_iff_lt_mul hz).2 (by omega)) (Nat.mod_lt _ hz);rwa[Nat.div_add_mod' c bq.sz]at this
  obtain⟨us,u1,u2,u3⟩:=rows hcells rfl h;exact⟨xs,us,hK,rfl,u1,u2,u3⟩
 case own bq l m' lo n h =>
  obtain⟨rfl,hK⟩:=hK;obtain⟨q1,q2,A,cap,rfl,q3⟩:=h;split at hK
  ·rename_i bj xs hxs;obtain⟨rfl,rfl,hK⟩:=hK;obtain⟨o1,o2,o3⟩:=hR.ok l _ hxs;obtain⟨q4,q5,q6⟩:=q3 o1.symm;have hlen:((xs.drop lo).take n).length=n:=by simp;omega
   rcases Nat.eq_zero_or_pos n with rfl|hn
   ·refine⟨(xs.drop lo).take 0,#[],hK,rfl,?_,by simp,fun i c hi=>by simp at hi⟩;cases A with
    | none=>simp[Builtin.firstCells]
    | some b=>simp[Builtin.firstCells,loadCells,loadCellsFrom]
   ·rcases o3 with⟨rfl,_,_⟩|⟨b,vs,b1,b2,b3,b4,b5,_⟩
    ·simp at q4;omega
    ·have q7:=q6 (by omega);rw[b1]at q7;simp only[aT]at q7;subst q7
     have hrow:g.off l+lo*bj.sz+n*bj.sz<=vs.size:=by
      have:lo*bj.sz+n*bj.sz<=g.cap l*bj.sz:=by rw[<-bE];exact aY _ (by omega)
      omega
     have hcells:∀ c,c<n*bj.sz->w.cell? ⟨b,g.off l+lo*bj.sz+c,none⟩=some (vs.getD (g.off l+lo*bj.sz+c) Go.undef):=fun c gy=>b2.cell (by omega);have hle:min n m*bj.sz<=n*bj.sz:=aY _ (by omega)
     obtain⟨us,u1,u2,u3⟩:=rows (xs:=(xs.drop lo).take n) (b:=b) (o:=g.off l+lo*bj.sz) (n:=min n m) (fun c gy=>by rw[hcells c (by omega)];rfl) (by rw[hlen]) (fun i c hi gy=>by
      rw[hlen]at hi;have h2:=mS hi gy;rw[ia hi]
      have e:dD w ⟨b,g.off l+lo*bj.sz+(i*bj.sz+c),none⟩=vs.getD (g.off l+(lo+i)*bj.sz+c) Go.undef:=by
       unfold dD;rw[hcells _ h2,show g.off l+lo*bj.sz+(i*bj.sz+c)=g.off l+(lo+i)*bj.sz+c by rw[bE];omega];rfl
      rw[e];exact b5 (lo+i) c (by omega) gy)
     rw[hlen]at u1 u2;exact⟨(xs.drop lo).take n,us,hK,by rw[hlen];rfl,by rw[hlen];exact u1,by rw[hlen];exact u2,u3⟩
  ·exact hK.elim
 case sK bq p n A cap hn hc h =>
  obtain⟨rfl,rfl,hK⟩:=hK;obtain⟨b,o,cs,rfl,h1,h2,h3,h4,h5⟩:=GG hR h hK
  obtain⟨us,u1,u2,u3⟩:=rows (xs:=cs) (b:=b) (o:=o) (n:=min cs.length m) (fun c gy=>h4 c (by simp at gy;omega)) rfl (fun i c hi gy=>by
   have hc0:c=0:=by simp at gy;omega
   subst hc0;have:=h5 i (by omega);have hsc:=wj h2 hi;have hcell:(cs.getD i .undef).cell 0=cs.getD i .undef:=by generalize cs.getD i .undef=z at hsc;cases z<;>first|rfl|(simp[AV.scalar]at hsc;done)
   rw[hcell];simpa using this)
  exact⟨cs,us,h3,by rw[h1];rfl,u1,u2,u3⟩
def Ks(need:Nat): ∀(r c:Nat),c<=2*need+512->Builtin.growBy need r c<=2*need+512
 | 0,c,h=>h
 | r + 1, c, h => by
   simp only[Builtin.growBy];split
   ·exact h
   ·exact Ks need r _ (by omega)
def Sk{need old:Nat}(h:old<need): Builtin.nextslicecap need old<=2*need+512:=by
 unfold Builtin.nextslicecap;split
 ·omega
 ·split
  ·omega
  ·exact Ks need 4 old (by omega)
def aal{need old bytes sz:Nat}(h:old<need)(hb:bytes<=24*(sz+1))(hs:sz<=1000)(hr:need*(sz+1)<=2 ^ 40): ¬ Builtin.nextslicecap need old*bytes>2 ^ 48:=by
 have h1:=Sk h;have h2:Builtin.nextslicecap need old*bytes<=(2*need+512)*(24*(sz+1)):=Nat.mul_le_mul h1 hb
 have h3:(2*need+512)*(24*(sz+1))=48*(need*(sz+1))+12288*(sz+1):=by
  rw[bE,show 2*need*(24*(sz+1))=48*(need*(sz+1)) by
   rw[Nat.mul_comm 2 need,Nat.mul_assoc,show 2*(24*(sz+1))=48*(sz+1) by omega,Nat.mul_left_comm]]
  omega
 have h4:48*(need*(sz+1))<=48*2 ^ 40:=Nat.mul_le_mul_left _ hr;have h5:(2:Nat) ^ 48=281474976710656:=by decide
 have h6:(2:Nat) ^ 40=1099511627776:=by decide
 omega
def Fl {ats : Array TypeId} {r sT xT e : TypeId} {d : TypeDesc} {el : El} {base : Option Addr} {sLen sCap n : Nat} {x : Value} {olds news : Array Value}
    (h0:ats[0]? = some sT) (h1:ats[1]? = some xT) (hu:P.underlying sT=some (.slice e)) (hx:P.underlying xT=some d) (hd:∀ k,d≠ .int k) (he:iP P e=some el)
    (hl:(Builtin.lenOf x).run P w = .ok n w) (hc:sCap<sLen+n) (hr:(sLen+n)*(el.sz+1)<=2 ^ 40)
    (ho:∀ dr,(Builtin.firstCells el.sz sLen (.slice base sLen sCap)).run P { w with drawn:=dr } = .ok olds { w with drawn:=dr })
    (hn:∀ dr,(Builtin.firstCells el.sz n x).run P { w with drawn:=dr } = .ok news { w with drawn:=dr }) :
    ∃ cap rest dr, sLen + n <= cap /\ rest.size = (cap - (sLen + n)) * el.sz /\
      (Builtin.append_ ats r #[.slice base sLen sCap,x]).run P w = .ok (.slice (some ⟨w.heap.size,0,none⟩) (sLen+n) cap) (World.alloc { w with drawn:=dr } (.cells (olds++news++rest) e)):=by
 obtain⟨fi,hi,_,hs,_,hb,hsz,z,hz,hzs⟩:=gH he;have hroom:=aal (bytes:=fi.bytes) (old:=sCap) hc hb hsz hr;have hzv:∀ w,(zeroValue e).run P w = .ok z w:=fun w=>by simp[zeroValue,run_typeInfo hi,hz]
 let q:Question:= .appendCap (sLen+n) sCap e
 let cap:=q.cut (w.tape w.drawn q)
 refine⟨cap,Builtin.zeroCells z.cells (cap-(sLen+n)),w.drawn+1,by simp only[cap,q,Question.cut];omega,by simp[Builtin.zeroCells,hzs],?_⟩;have ahG:(match d with | .int _=>true|_=>false)=false:=by cases d<;>first|rfl|exact absurd rfl (hd _)
 have hfalse:((d matches .int _):Bool)=false:=by cases d<;>first|rfl|exact absurd rfl (hd _)
 have adU:¬ (sLen+n<=sCap):=by omega
 have hbytes:fi.bytes=0->¬ (((sLen+n:Nat):Int)>IntKind.i64.max):=fun _=>by
  have:(sLen+n)*1<=(sLen+n)*(el.sz+1):=Nat.mul_le_mul_left _ (by omega);have h6:(2:Nat) ^ 40=1099511627776:=by decide
  have:IntKind.i64.max=9223372036854775807:=by decide
  omega
 have hb':¬ ((((sLen+n:Nat):Int)>IntKind.i64.max)/\fi.bytes=0):=fun h=>hbytes h.2 h.1;have agI:q.forced=false:=rfl;unfold Builtin.append_;simp only[fy,eO,dQ,h0,h1,Sem.run_bind,aQ hu,Result.andThen_ok,cW hi,hs,aQ hx,Sem.run_pure,hfalse,hl,aB,if_false,if_neg adU,run_typeInfo hi,false_or,fZ,if_true];rw[if_neg hb'];simp only[Sem.run_bind,run_typeInfo hi,Result.andThen_ok,if_neg hroom];rw[run_choose];simp only[show (Question.appendCap (sLen+n) sCap e).forced=false from rfl,aB,if_false,Result.andThen_ok,run_typeInfo hi,run_askRoom,ho,hn,hzv,newRow,Sem.run_bind,run_newObj,Sem.run_pure];rfl
def Ew {ats : Array TypeId} {r sT xT e : TypeId} {d : TypeDesc} {el : El} {b o : Nat} {sLen sCap n : Nat} {x : Value} {news vs : Array Value}
    (h0:ats[0]? = some sT) (h1:ats[1]? = some xT) (hu:P.underlying sT=some (.slice e)) (hx:P.underlying xT=some d) (hd:∀ k,d≠ .int k) (he:iP P e=some el)
    (hl:(Builtin.lenOf x).run P w = .ok n w) (hc:sLen+n<=sCap)
    (hn:(Builtin.firstCells el.sz n x).run P w = .ok news w) (hr:Row w b vs) (hsz:o+sLen*el.sz+news.size<=vs.size) (h1c:∀ u ∈ news.toList,u.oneCell'=true) :
    (Builtin.append_ ats r #[.slice (some ⟨b,o,none⟩) sLen sCap,x]).run P w = .ok (.slice (some ⟨b,o,none⟩) (sLen+n) sCap) (setRow w b (o+sLen*el.sz) news.toList):=by
 obtain⟨fi,hi,_,hs,_⟩:=gH he;have hfalse:((d matches .int _):Bool)=false:=by cases d<;>first|rfl|exact absurd rfl (hd _)
 have hst:=nV (P:=P) (b:=b) (o:=o+sLen*el.sz) news.toList w vs 0 hr (by simpa using hsz) h1c;unfold Builtin.append_;simp only[fy,eO,dQ,h0,h1,Sem.run_bind,aQ hu,Result.andThen_ok,cW hi,hs,aQ hx,Sem.run_pure,hfalse,hl,aB,if_false,if_pos hc,hn,fZ,if_true,add_plain];rw[hst];simp
def B8 {ats : Array TypeId} {r sT xT e : TypeId} {d : TypeDesc} {el : El} {sLen sCap n : Nat} {x : Value} {news : Array Value}
    (h0:ats[0]? = some sT) (h1:ats[1]? = some xT) (hu:P.underlying sT=some (.slice e)) (hx:P.underlying xT=some d) (hd:∀ k,d≠ .int k) (he:iP P e=some el)
    (hl:(Builtin.lenOf x).run P w = .ok n w) (hc:sLen+n<=sCap) (hn:(Builtin.firstCells el.sz n x).run P w = .ok news w) :
    (Builtin.append_ ats r #[.slice none sLen sCap,x]).run P w = .ok (.slice none (sLen+n) sCap) w:=by
 obtain⟨fi,hi,_,hs,_⟩:=gH he;have hfalse:((d matches .int _):Bool)=false:=by cases d<;>first|rfl|exact absurd rfl (hd _)
 unfold Builtin.append_;simp only[fy,eO,dQ,h0,h1,Sem.run_bind,aQ hu,Result.andThen_ok,cW hi,hs,aQ hx,Sem.run_pure,hfalse,hl,aB,if_false,if_pos hc,hn,fZ,if_true]
def oN{el:El}{xs:List AV}{us:Array Value}(h:ic g w el xs us)(hs:us.size=xs.length*el.sz)(hf:∀ i,i<xs.length->(xs.getD i .undef).fits el=true): ∀ u ∈ us.toList,u.oneCell'=true:=by
 intro u hu;obtain⟨k,hk,rfl⟩:=List.mem_iff_getElem.1 hu;simp only[eF]at hk
 have hz:0<el.sz:=by
  rcases Nat.eq_zero_or_pos el.sz with e|e
  ·rw[e]at hs;omega
  ·exact e
 have h1:k / el.sz<xs.length:=(Nat.div_lt_iff_lt_mul hz).2 (by omega);have h2:k % el.sz<el.sz:=Nat.mod_lt _ hz;have:=h _ _ h1 h2;rw[Nat.div_add_mod' k el.sz]at this
 have hsc:((xs.getD (k / el.sz) .undef).cell (k % el.sz)).scalar=true:=by
  have hft:=hf _ h1;generalize xs.getD (k / el.sz) .undef=y at hft
  cases y<;>simp only[AV.fits,Bool.and_eq_true,beq_iff_eq]at hft<;>first
   |(obtain⟨⟨_,q1⟩,q2⟩:=hft;exact wj q2 (by omega))
   | rfl
   | cases hft
 have:=this.DI hsc;simpa[hk]using this
def xZ {T : Option TypeId} {ats : Array TypeId} {r sT xT e : TypeId} {d : TypeDesc} {el : El} {x y : AV} {a b : Value} (hR : Rel g w σ)
    (h0:ats[0]? = some sT) (h1:ats[1]? = some xT) (hu:P.underlying sT=some (.slice e)) (hd':P.underlying xT=some d) (hd:∀ k,d≠ .int k) (he:iP P e=some el)
    (hx:VR g w x a) (hy:VR g w y b) (hT:T=none\/T=some e) (qV:oY σ T el x y K):bC P (Builtin.append_ ats r #[a,b]) g w σ K:=by
 obtain⟨ys,news,hK,hl,u_,hsz,hh⟩:=mT (P:=P) hR hy qV;clear qV;obtain⟨hfit,hK⟩:=hK
 have x2:∀ i,i<ys.length->(ys.getD i .undef).fits el=true:=fun i hi=>by
  have:=aX.1 hfit (ys[i]) (cU _);simpa[hi]using this
 have h1c:=oN hh hsz x2;have hn:∀ dr,(Builtin.firstCells el.sz ys.length b).run P { w with drawn:=dr } = .ok news { w with drawn:=dr }:=fun dr=>u_ _ rfl
 have hty:∀ (w1:World) (vs:Array Value),uc (World.alloc w1 (.cells vs e)) w1.heap.size vs.size T:=fun w1 vs=>by
  rcases hT with rfl|rfl
  ·trivial
  ·have:(World.alloc w1 (.cells vs e)).heap[w1.heap.size]? = some (.cells vs e):=heap_alloc_new w1 _;simp only[uc,World.shape?,this]
 have fresh:∀ (xs:List AV) (olds:Array Value) (base:Option Addr) (sCap:Nat),a = .slice base xs.length sCap->sCap<xs.length+ys.length->fR (xs.length+ys.length) el ->
  (∀ dr,(Builtin.firstCells el.sz xs.length (.slice base xs.length sCap)).run P { w with drawn:=dr } = .ok olds { w with drawn:=dr }) ->
  olds.size=xs.length*el.sz->ic g w el xs olds->(∀ i,i<xs.length->(xs.getD i .undef).fits el=true) ->
  ∃ cap rest dr, xs.length + ys.length <= cap /\ rest.size = (cap - (xs.length + ys.length)) * el.sz /\ (olds ++ news ++ rest).size = cap * el.sz /\ ic g w el (xs ++ ys) (olds ++ news ++ rest) /\ (∀ i, i < (xs ++ ys).length -> ((xs ++ ys).getD i .undef).fits el = true) /\
    (Builtin.append_ ats r #[a,b]).run P w = .ok (.slice (some ⟨w.heap.size,0,none⟩) (xs.length+ys.length) cap) (World.alloc { w with drawn:=dr } (.cells (olds++news++rest) e)):=by
  intro xs olds base sCap ha hc hr ho hos hoh hof;obtain⟨cap,rest,dr,k1,k2,k3⟩:=Fl (P:=P) (r:=r) h0 h1 hu hd' hd he hl hc hr ho hn;refine⟨cap,rest,dr,k1,k2,?_,hoh.append hh hos hsz,fun i hi=>?_,by rw[ha];exact k3⟩
  ·simp only[Array.size_append,hos,hsz,k2];rw[<-bE,<-bE]
   congr 1
   omega
  ·simp only[aA]at hi;by_cases h:i<xs.length
   ·have:=hof i h;simpa[aH h]using this
   ·obtain⟨j,rfl⟩:∃ j,i=xs.length+j:=⟨i-xs.length,by omega⟩;have:=x2 j (by omega);simpa[bL]using this
 have pushed:∀ (zs:List AV) (vs:Array Value) (cap dr:Nat),zs.length<=cap->vs.size=cap*el.sz->ic g w el zs vs->(∀ i,i<zs.length->(zs.getD i .undef).fits el=true) ->
  ∃ g', Rel g' (World.alloc { w with drawn := dr } (.cells vs e)) (σ ++ [.cz T el zs]) /\ fC σ g w (σ ++ [.cz T el zs]) g' (World.alloc { w with drawn := dr } (.cells vs e)) /\
    VR g' (World.alloc { w with drawn:=dr } (.cells vs e)) (.own el σ.length zs.length 0 zs.length) (.slice (some ⟨w.heap.size,0,none⟩) zs.length cap):=by
  intro zs vs cap dr k1 k2 k3 k4;have kV:=hR.drew dr;have hm:=kj g { w with drawn:=dr } (.cells vs e) zs.length (some w.heap.size) cap kV.lt
  obtain⟨r1,r2⟩:=kV.pF (.cells vs e) (.cz T el zs) zs.length cap
   ⟨by simp[aJ.push],k4,.inr ⟨w.heap.size,vs,by simp[aJ.push],mP _ vs e,by simp[aJ.push,k2],by simp[aJ.push,k1],fun i c hi hc=>by simp only[aJ.push,if_true,b_];exact((k3 i c hi hc).mono (fC.drew σ g w dr).mono).mono hm,by simp only[aJ.push,if_true];exact(hty _ _).v⟩⟩
  refine⟨_,r1,(fC.drew σ g w dr).trans r2,.own _ _ _ _ _ _ ⟨by simp[aJ.push,hR.len],by simp[aJ.push,hR.len],_,_,rfl,fun _=>⟨by omega,by simp[aJ.push,hR.len],fun _=>by simp[aJ.push,hR.len]⟩⟩⟩
 cases hx<;>(try exact False.elim hK)
 case au =>
  simp only at hK;split at hK
  ·rename_i hz;refine⟨.slice none 0 0,w,g,.au,σ,?_,hR,.refl _ _ _,.au,hK⟩;have:=B8 (P:=P) (r:=r) (sLen:=0) (sCap:=0) h0 h1 hu hd' hd he hl (by omega) (u_ w rfl);rw[this];simp[hz]
  ·rename_i hz;obtain⟨hr,hK⟩:=hK;obtain⟨cap,rest,dr,k1,k2,k3,k4,k5,k6⟩:=fresh [] #[] none 0 rfl (by simp;omega) (by simpa using hr) (fun _=>rfl) (by simp) (fun i c hi=>absurd hi (cG _)) (fun i hi=>absurd hi (cG _));simp only[cS,List.length_nil,b_]at k1 k4 k5 k6;obtain⟨g',r1,r2,r3⟩:=pushed ys _ cap dr k1 k3 k4 k5;exact⟨_,_,g',_,_,k6,r1,r2,r3,hK⟩
 case iO f bq base cap hf =>
  cases f with
  | false=>exact hK.elim
  | true =>
    obtain⟨rfl,hK⟩:=hK;have hcap:cap=0:=hf rfl;subst hcap;split at hK
    ·rename_i hz;refine⟨.slice base 0 0,w,g,.aO true bq [],σ,?_,hR,.refl _ _ _,.iO _ _ _ _ hf,hK⟩;cases base with
     | none =>
       have:=B8 (P:=P) (r:=r) (sLen:=0) (sCap:=0) h0 h1 hu hd' hd he hl (by omega) (u_ w rfl);rw[this];simp[hz]
     | some A =>
       obtain⟨fi,hi,_,hs,_⟩:=gH he;have hfalse:((d matches .int _):Bool)=false:=by cases d<;>first|rfl|exact absurd rfl (hd _)
       have hne:news = #[]:=by rw[hz]at hsz;exact eR (by simpa using hsz)
       have z8:=u_ w rfl;rw[hne,hz]at z8;rw[hz]at hl;unfold Builtin.append_;simp only[fy,eO,dQ,h0,h1,Sem.run_bind,aQ hu,Result.andThen_ok,cW hi,hs,aQ hd',Sem.run_pure,hfalse,hl,aB,if_false,cQ,Nat.le_refl,if_true,z8,fZ];simp[storeCells]
    ·rename_i hz;obtain⟨hr,hK⟩:=hK;obtain⟨cap,rest,dr,k1,k2,k3,k4,k5,k6⟩:=fresh [] #[] base 0 rfl (by simp;omega) (by simpa using hr) (fun _=>by cases base<;>simp[Builtin.firstCells,loadCells,loadCellsFrom]) (by simp) (fun i c hi=>absurd hi (Nat.not_lt_zero _)) (fun i hi=>absurd hi (Nat.not_lt_zero _));simp only[cS,List.length_nil,b_]at k1 k4 k5 k6 hK;obtain⟨g',r1,r2,r3⟩:=pushed ys _ cap dr k1 k3 k4 k5;exact⟨_,_,g',_,_,k6,r1,r2,r3,hK⟩
 case aO f bq xs b' off cap y9 hf Bi ft hc h =>
  cases f with
  | false=>exact hK.elim
  | true =>
    obtain⟨rfl,hK⟩:=hK;have hcap:cap=xs.length:=hf rfl;subst hcap;have sS:VR g w (.aO true bq xs) (.slice (some ⟨b',off,none⟩) xs.length xs.length):= .aO true bq xs b' off _ y9 hf Bi ft hc h;split at hK
    ·rename_i hz;refine⟨.slice (some ⟨b',off,none⟩) xs.length xs.length,w,g,.aO true bq xs,σ,?_,hR,.refl _ _ _,sS,hK⟩;obtain⟨fi,hi,_,hs,_⟩:=gH he;have hfalse:((d matches .int _):Bool)=false:=by cases d<;>first|rfl|exact absurd rfl (hd _)
     have hne:news = #[]:=by rw[hz]at hsz;exact eR (by simpa using hsz)
     have z8:=u_ w rfl;rw[hne,hz]at z8;rw[hz]at hl;unfold Builtin.append_;simp only[fy,eO,dQ,h0,h1,Sem.run_bind,aQ hu,Result.andThen_ok,cW hi,hs,aQ hd',Sem.run_pure,hfalse,hl,aB,if_false,cQ,Nat.le_refl,if_true,z8,fZ];simp[storeCells]
    ·rename_i hz;obtain⟨hr,hK⟩:=hK;obtain⟨xs',olds,q1,q2,q3,q4,q5⟩:=mT (P:=P) (K:=fun zs=>zs=xs) (el:=bq) hR sS (by simp[fP]);subst q1;obtain⟨cap,rest,dr,k1,k2,k3,k4,k5,k6⟩:=fresh xs' olds _ xs'.length rfl (by omega) hr (fun _=>q3 _ rfl) q4 q5 ft;obtain⟨g',r1,r2,r3⟩:=pushed (xs'++ys) _ cap dr (by simpa using k1) k3 k4 k5;simp only[aA]at r3;exact⟨_,_,g',_,_,k6,r1,r2,r3,hK⟩
 case own bq l m lo n h =>
  obtain⟨rfl,hK⟩:=hK;have sS:VR g w (.own bq l m lo n) a:= .own _ _ _ _ _ _ h;obtain⟨q1,q2,A,cap,rfl,q3⟩:=h;split at hK
  ·rename_i T' bj xs hxs;obtain⟨hTT,rfl,rfl,rfl,rfl,hr,hK⟩:=hK;obtain⟨o1,o2,o3⟩:=hR.ok l _ hxs;obtain⟨q4,q5,q6⟩:=q3 o1.symm;by_cases hc:xs.length+ys.length<=cap
   ·
    rcases Nat.eq_zero_or_pos ys.length with hz|hz
    ·
     have hne:news = #[]:=by rw[hz]at hsz;exact eR (by simpa using hsz)
     have hys:ys=[]:=fc hz;subst hys
     have ug : σ.set l (.cz T' bj xs) = σ:=by
      apply List.ext_getElem?;intro k;by_cases e:k=l
      ·subst e;rw[List.getElem?_set_self (by have:=(aP.1 hxs).1;exact this)];exact hxs.symm
      ·rw[List.getElem?_set_ne (Ne.symm e)]
     simp only[List.length_nil,cQ,bY,ug]at hK;refine⟨.slice A xs.length cap,w,g,.own bj l xs.length 0 xs.length,σ,?_,hR,.refl _ _ _,sS,hK⟩;obtain⟨fi,hi,_,hs,_⟩:=gH he;have hfalse:((d matches .int _):Bool)=false:=by cases d<;>first|rfl|exact absurd rfl (hd _)
     have z8:=u_ w rfl;rw[hne]at z8;simp only[List.length_nil,cQ]at hc z8 hl;unfold Builtin.append_;simp only[fy,eO,dQ,h0,h1,Sem.run_bind,aQ hu,Result.andThen_ok,cW hi,hs,aQ hd',Sem.run_pure,hfalse,hl,aB,if_false,cQ,if_pos hc,z8,fZ,if_true];cases A<;>simp[storeCells]
    ·rcases o3 with⟨rfl,o4,o5⟩|⟨b',vs,b1,b2,b3,b4,b5,b6⟩
     ·simp at q5 hc;omega
     ·have q7:=q6 (by omega);rw[b1]at q7;simp only[aT]at q7;subst q7;have adV:g.cap l=cap:=by omega
      have hroom:g.off l+(xs.length+ys.length)*bj.sz<=vs.size:=by rw[b3,adV];exact Nat.add_le_add_left (aY _ hc) _
      rw[bE]at hroom;have hrun:=Ew (P:=P) (r:=r) (b:=b') (o:=g.off l+0*bj.sz) (sLen:=xs.length) h0 h1 hu hd' hd he hl hc (u_ w rfl) b2 (by omega) h1c;obtain⟨f1,f2,f3,f4,f5⟩:=nR w b' (g.off l+0*bj.sz+xs.length*bj.sz) news.toList
      obtain⟨r1,r2⟩:=hR.change (o':= .cz T' bj (xs++ys)) (w':=setRow w b' (g.off l+0*bj.sz+xs.length*bj.sz) news.toList) hxs rfl (xs.length+ys.length) (some b') (g.cap l) (g.off l) (by omega) (fun e=>by omega) (by omega) f2 f3 f4
       (fun c ko hne=>f5 c (fun e=>hne (e ▸ b1))) (fun c ko=> .inl (by rw[b1,ko]))
       (fun hm => ⟨by simp [aJ.reset], fun i hi => by
         simp only[aA]at hi;by_cases h:i<xs.length
         ·have:=o2 i h;simpa[aH h]using this
         ·obtain⟨j,rfl⟩:∃ j,i=xs.length+j:=⟨i-xs.length,by omega⟩;have:=x2 j (by omega);simpa[bL]using this,
         .inr ⟨b',_,by simp[aJ.reset],b2.setRow _ _,by rw[size_putRow];simp[aJ.reset,b3],by simp[aJ.reset];omega,fun i c hi ko=>by
          simp only[aA]at hi;rw[show (g.reset l (xs.length+ys.length) (some b') (g.cap l) (g.off l)).off l=g.off l from by simp[aJ.reset]];rw[lX _ _ _ (by simp;omega)];simp only[eF,hsz];by_cases h:i<xs.length
          ·have h2:=mS h ko;rw[if_neg (by omega),show(xs++ys).getD i .undef=xs.getD i .undef by simp[aH h]];exact(b5 i c h ko).mono hm
          ·obtain⟨j,rfl⟩:∃ j,i=xs.length+j:=⟨i-xs.length,by omega⟩;have hj:j<ys.length:=by omega
           have h2:=mS hj ko
           rw[bE,if_pos (by omega),show(xs++ys).getD (xs.length+j) .undef=ys.getD j .undef by simp[bL],
            show g.off l+(xs.length*bj.sz+j*bj.sz)+c-(g.off l+0*bj.sz+xs.length*bj.sz)=j*bj.sz+c by omega]
           have:=(hh j c hj ko).mono hm;have h3:j*bj.sz+c<news.size:=by omega
           simpa[h3]using this,by
          cases T' with
          | none=>trivial
          | some T'=>simp only[aJ.reset,if_true];rw[size_putRow];exact⟨(pG _ _ _ _ _).trans b6.1,b6.2⟩⟩⟩)
      refine⟨_,_,_,_,_,hrun,r1,r2,.own _ _ _ _ _ _ ⟨by simp[aJ.reset];exact q1,by simp[aJ.reset],_,_,rfl,fun _=>⟨by omega,by simp[aJ.reset];omega,fun _=>by simp[aJ.reset]⟩⟩,hK⟩
   ·
    obtain⟨xs',olds,p1,p2,p3,p4,p5⟩:=mT (P:=P) (K:=fun zs=>zs=xs) (el:=bj) hR sS (by simp[fP,hxs]);subst p1;obtain⟨cap',rest,dr,k1,k2,k3,k4,k5,k6⟩:=fresh xs' olds A cap rfl (by omega) hr (fun _=>p3 _ rfl) p4 p5 o2;have kV:=hR.drew dr
    obtain⟨r1,r2⟩:=kV.change (o':= .cz T' bj (xs'++ys)) (w':=World.alloc { w with drawn:=dr } (.cells (olds++news++rest) e)) hxs rfl (xs'.length+ys.length) (some w.heap.size) cap' 0 (by omega)
     (fun e => by
       have hys:ys.length=0:=by omega
       have:¬ (xs'.length<=cap):=by omega
       have:xs'.length<=g.cap l:=by
        rcases o3 with⟨rfl,_,_⟩|⟨b',vs,b1,b2,b3,b4,b5⟩
        ·exact bJ _
        ·exact b4
       omega) (by simp) rfl rfl rfl
     (fun c ko _=>heap_alloc_old _ _ ko) (fun c ko=> .inr (by cases ko;exact Nat.le_refl _))
     (fun hm => ⟨by simp [aJ.reset], k5, .inr ⟨w.heap.size, _, by simp [aJ.reset], mP { w with drawn := dr } _ e, by simp only [aJ.reset, if_true, b_]; exact k3, by simp [aJ.reset]; exact k1, fun i c hi ko => by simp only [aJ.reset, if_true, b_]; exact ((k4 i c hi ko).mono (fC.drew σ g w dr).mono).mono hm, by
       simp only[aJ.reset,if_true];rcases hTT with rfl|rfl
       ·trivial
       ·exact(hty { w with drawn:=dr } _).v⟩⟩)
    refine⟨_,_,_,_,_,k6,r1,(fC.drew σ g w dr).trans r2,.own _ _ _ _ _ _ ⟨by simp[aJ.reset];exact q1,by simp[aJ.reset],_,_,rfl,fun _=>⟨by omega,by simp[aJ.reset],fun _=>by simp[aJ.reset]⟩⟩,hK⟩
  ·exact hK.elim
def Po {T : Option TypeId} {ats : Array TypeId} {r sT xT e : TypeId} {d : TypeDesc} {el : El} {x y : AV} {a b : Value} {n : Nat} {ys : List AV} (hR : Rel g w σ)
    (h0:ats[0]? = some sT) (h1:ats[1]? = some xT) (hu:P.underlying sT=some (.slice e)) (hd':P.underlying xT=some d) (hd:∀ k,d≠ .int k) (he:iP P e=some el)
    (hx:VR g w x a) (hy:VR g w y b) (hT:T=none\/T=some e) (hn : σ[n]? = some .resv) (hys:R5 el y=some ys) (hx0:R4 el x=true) (hfit:ys.all (fun a=>a.fits el)=true) (hroom:fR ys.length el)
    (hK:K (.own el n ys.length 0 ys.length) (σ.set n (.cz T el ys))):bC P (Builtin.append_ ats r #[a,b]) g w σ K:=by
 obtain⟨r1,r2⟩:=hR.Z8 hn T el;obtain⟨v0,b0,c0,_⟩:=hR.ok n _ hn;have hlt:=(aP.1 hn).1
 have hx':VR g w (.own el n 0 0 0) a:=by
  have:∃ base,a = .slice base 0 0:=by
   cases hx<;>simp only[R4]at hx0<;>(try (cases hx0;done))
   case au=>exact⟨none,rfl⟩
   case iO f bq b cap hf =>
    cases f with
    | false=>cases hx0
    | true=>exact⟨b,by rw[hf rfl]⟩
   case aO f bq xs b off cap hi hf hx ft hc h =>
    cases f with
    | false=>cases hx0
    | true =>
      simp only[aq,List.isEmpty_iff]at hx0;obtain⟨_,rfl⟩:=hx0;exact⟨_,by rw[hf rfl];rfl⟩
  obtain⟨base,rfl⟩:=this;refine .own _ _ _ _ _ _ ⟨by rw[<-hR.len];exact hlt,bJ _,base,0,rfl,fun _=>⟨Nat.le_refl _,by rw[c0],fun h=>by rw[c0]at h;exact absurd h (gN _)⟩⟩
 have hA:oY (σ.set n (.cz T el [])) T el (.own el n 0 0 0) y K:=by
  have ug:(σ.set n (.cz T el []))[n]? = some (.cz T el []):=List.getElem?_set_self hlt
  have key:ys.all (fun a=>a.fits el)=true/\(el=el/\match (σ.set n (.cz T el []))[n]? with
   | some (.cz T' bj xs) => (T' = none \/ T' = T) /\ bj = el /\ 0 = xs.length /\ 0 = 0 /\ 0 = xs.length /\ fR (xs.length + ys.length) el /\
     K (.own el n (xs.length+ys.length) 0 (xs.length+ys.length)) ((σ.set n (.cz T el [])).set n (.cz T' el (xs++ys)))
   | _=>False):=by
   refine⟨hfit,rfl,?_⟩;rw[ug];refine⟨.inr rfl,rfl,rfl,rfl,rfl,by simpa using hroom,?_⟩;simpa[bF]using hK
  unfold oY fP;cases y<;>simp only[R5]at hys<;>(try (cases hys;done))
  ·cases hys;exact key
  ·split at hys
   ·rename_i h;cases hys;exact⟨h,key⟩
   ·cases hys
 obtain⟨v,w',g',av,σ',q1,q2,q3,q4,q5⟩:=xZ r1 h0 h1 hu hd' hd he hx' hy hT hA;exact⟨v,w',g',av,σ',q1,q2,r2.trans q3,q4,q5⟩
end
