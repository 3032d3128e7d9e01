/- Part. -/
import Derived.Test.YtdohdkdejmhgnaaGreatDoorY02
import Derived.Lib.UnsafeStr
import Derived.Lib.Builder
import Derived.Laws.Externs
import Derived.MapKept
set_option linter.all false
set_option maxHeartbeats 1000000
namespace Go.AM
section
variable {P:Program} {g:aC} {w:World} {σ : ai} {K:AV->ai->Prop}
def VJ {ats : Array TypeId} {ty : TypeId} {el : El} {x : AV} {a : Value} (hR : Rel g w σ) (hx : VR g w x a)
    (hK : match (generalizing := false) x with
      | .aP=>K .ew σ
      | .own aS l m lo n => aS = el /\ match σ[l]? with
        | some (.bW _ bq xs)=>bq=el/\m=xs.length/\0<n/\K (.dw el l m lo 0) σ
        | _=>False
      | _=>False):bD P (Builtin.unsafeSliceData_ ats ty #[a]) g w σ K:=by
 cases hx<;>simp only at hK
 case aP=>exact bD.pure hR (Lib.run_unsafeSliceData_nil (P:=P) w ats ty 0 0) .ew hK
 case own aS l m lo n h =>
  obtain⟨rfl,hK⟩:=hK;obtain⟨q1,q2,A,cap,rfl,q3⟩:=h;split at hK
  ·rename_i T bq xs hxs;obtain⟨rfl,rfl,hn,hK⟩:=hK;obtain⟨o1,o2,o3⟩:=hR.ok l _ hxs;obtain⟨q4,q5,q6⟩:=q3 o1.symm;rcases o3 with⟨rfl,_,_⟩|⟨b,vs,b1,b2,b3,b4,b5,_⟩
   ·simp at q4;omega
   have q7:=q6 ae;rw[b1]at q7;simp only[cB]at q7;subst q7;exact bD.pure hR (Lib.run_unsafeSliceData_row (P:=P) w ats ty _ n cap ae) (.dw _ _ _ _ _ _ ⟨q1,q2,_,rfl,fun _=>⟨b1,rfl⟩⟩) hK
  exact hK.elim
def Kc(w:World)(b n:Nat){c:Nat}(h:c≠b): (w.freeze ⟨b,0,none⟩ n).heap[c]? = w.heap[c]?:=by
 unfold World.freeze;split
 ·rfl
 simp only[Array.getElem?_modify];rw[aq (Ne.symm h)]
def Oc(w:World)(b n:Nat): (w.freeze ⟨b,0,none⟩ n).heap.size=w.heap.size/\(w.freeze ⟨b,0,none⟩ n).os=w.os/\(w.freeze ⟨b,0,none⟩ n).tape=w.tape/\(w.freeze ⟨b,0,none⟩ n).output=w.output:=by
 unfold World.freeze;split
 ·exact⟨rfl,rfl,rfl,rfl⟩
 exact⟨aT,rfl,rfl,rfl⟩
def Tw {pt it ty e : TypeId} {x y : AV} {a b : Value} (hR : Rel g w σ) (hp : P.underlying pt = some (.pointer e)) (hc : P.cellsOf e = 1) (hx : VR g w x a) (hy : VR g w y b)
    (hK : match (generalizing := false) x, y with
      | .ew,.int .i64 k=>k=0/\K (.str []) σ
      | .dw el l m lo off, .int .i64 k => lo = 0 /\ off = 0 /\ el = ⟨false, 1⟩ /\ match σ[l]? with
        | some (.bW T' _ xs)=>T'=some e/\m=xs.length/\0<k/\k<=xs.length/\xs.length<=2^62/\ ∃ s:List UInt8,xs.take k.toNat=s.map (fun b=>AV.int .u8 b.toNat)/\K (.str s) (σ.set l .dead)
        | _=>False
      | _,_=>False):bD P (Builtin.unsafeString_ #[pt,it] ty #[a,b]) g w σ K:=by
 cases hx<;>(try exact False.elim hK)
 case ew =>
  cases hy<;>(try exact False.elim hK);rename_i q k;cases q<;>(try exact False.elim hK);obtain⟨rfl,hK⟩:=hK;exact bD.pure hR (Lib.run_unsafeString_none (P:=P) w pt it ty none) (.str []) hK
 case dw el l m lo off h =>
  cases hy<;>(try exact False.elim hK);rename_i q k;cases q<;>(try exact False.elim hK);obtain⟨rfl,rfl,rfl,hK⟩:=hK;obtain⟨hl,hm,A,rfl,hA⟩:=h;split at hK
  ·rename_i T bq xs hxs;obtain⟨rfl,rfl,k1,k2,k3,s,k4,hK⟩:=hK;obtain⟨o1,o2,o3⟩:=hR.ok l _ hxs;rcases o3 with⟨rfl,_,_⟩|⟨b,vs,b1,b2,b3,b4,b5,b6⟩
   ·simp at k2;omega
   obtain⟨a1,a2⟩:=hA o1.symm;have hb:A.block=b:=by rw[a1]at b1;cases b1;rfl
   rw[hb]at a2;obtain⟨b6,hz⟩:=b6;rw[hz]at a2 b3 b5;simp only[Nat.zero_mul,bp,dP]at a2 b3 b5;subst a2;obtain⟨n,rfl⟩:=cn (Int.le_of_lt k1);simp only[fB]at k4
   have hn:s.length=n:=by
    have:=bC List.length k4;simp only[dH,c8]at this;omega
   have hfit:∀ i,i<xs.length->bq.sz=1:=fun i hi=>by
    have hf:=o2 i hi;have e1:i<n\/n<=i:=ae;have h0:0<n:=ae;have hx0:(xs.take n).getD 0 .undef=(s.map fun b=>AV.int .u8 b.toNat).getD 0 .undef:=by rw[k4]
    have hs0:0<s.length:=ae
    have akh:xs.getD 0 .undef = .int .u8 (s[0]).toNat:=by
     have hlt:0<xs.length:=ae;simpa[h0,hs0,hlt]using hx0
    have:=o2 0 ae;rw[akh]at this;simp only[AV.fits,aD,beq_iff_eq]at this;exact this.2
   have hsz:bq.sz=1:=hfit 0 ae;rw[hsz,Nat.mul_one]at b3
   have hcell:∀ j x,s[j]? = some x->w.cell? ((⟨b,0,none⟩:Addr).add j)=some (.int .u8 x.toNat):=fun j x hj=>by
    have qA:j<s.length:=(aK.1 hj).1;have hjx:s[j]=x:=(aK.1 hj).2;have h2:=b5 j 0 ae ae;rw[hsz]at h2;simp only[Nat.mul_one,dP]at h2
    have e2:xs.getD j .undef = .int .u8 x.toNat:=by
     have:(xs.take n).getD j .undef=(s.map fun b=>AV.int .u8 b.toNat).getD j .undef:=by rw[k4]
     have hjn:j<n:=ae;have aki:j<xs.length:=ae;simpa[hjn,qA,aki,hjx]using this
    rw[e2]at h2
    have e3:(⟨b,0,none⟩:Addr).add j=⟨b,j,none⟩:=by
     unfold Addr.add;split
     ·rename_i h0;subst h0;rfl
     simp
    rw[e3,b2.cell ae];generalize vs.getD j Go.undef=u at h2;cases h2;rfl
   have hrun:=Lib.run_unsafeString_row (P:=P) w pt it ty e hp hc b vs.size b6 s (by intro e;subst e;simp at hn;omega) ae ae hcell;rw[hn]at hrun;obtain⟨f1,f2,f3,f4⟩:=Oc w b n;obtain⟨r1,r2⟩:=hR.update (o':= .dead) hxs rfl b1 f1 f2 f3 f4 (fun c hc=>Kc w b n hc) (fun _=>trivial);exact⟨_,_,g,.str s,_,hrun,r1,r2,.str s,hK⟩
  exact hK.elim
def VK {src dst t : TypeId} {i : TypeInfo} {x : AV} {a : Value} (hR : Rel g w σ) (hs : P.underlying src = some (.pointer t)) (hd : P.underlying dst = some .unsafePointer) (hi : P.info? t = some i) (h0 : i.size ≠ 0) (hx : VR g w x a)
    (hK : match (generalizing := false) x with
      | .ref l off => match σ[l]? with
        | some (.bH _ cs)=>off<cs.length/\K (.ref l off) σ
        | _=>False
      | _=>False):bD P (convert src dst a) g w σ K:=by
 cases hx<;>simp only at hK
 case ref l off h =>
  have hx':VR g w (.ref l off) a:= .ref _ _ _ h;obtain⟨hl,A,rfl,hA⟩:=h;split at hK
  ·rename_i T cs hcs;obtain⟨hlt,hK⟩:=hK;obtain⟨o1,o2,b,vs,o3,o4,o5,o6,_⟩:=hR.ok l _ hcs;obtain⟨a1,a2⟩:=hA o1;have hb:A.block=b:=by rw[a1]at o3;cases o3;rfl
   obtain⟨T',fz,o4,_⟩:=o4;have hsh:w.shape? A.block=some (T',vs.size):=by simp only[World.shape?,hb,o4]
   refine bD.pure hR (Lib.run_to_unsafe (P:=P) w A hs hd hi h0 hsh (by rw[a2];show off<vs.size;omega)) hx' hK
  exact hK.elim
def VL {src dst u : TypeId} {i : TypeInfo} {x : AV} {a : Value} (hR : Rel g w σ) (hs : P.underlying src = some .unsafePointer) (hd : P.underlying dst = some (.pointer u)) (hi : P.info? u = some i) (hx : VR g w x a)
    (hK : match (generalizing := false) x with
      | .ref l off => match σ[l]? with
        | some (.bH (some T) cs)=>liesAt P P.depth T (cs.length / P.cellsOf T) off u 1=true/\K (.ref l off) σ
        | _=>False
      | _=>False):bD P (convert src dst a) g w σ K:=by
 cases hx<;>simp only at hK
 case ref l off h =>
  have hx':VR g w (.ref l off) a:= .ref _ _ _ h;obtain⟨hl,A,rfl,hA⟩:=h;split at hK
  ·rename_i T cs hcs;obtain⟨hlt,hK⟩:=hK;obtain⟨o1,o2,b,vs,o3,o4,o5,o6,o7⟩:=hR.ok l _ hcs;obtain⟨a1,a2⟩:=hA o1;have hb:A.block=b:=by rw[a1]at o3;cases o3;rfl
   have hsh:w.shape? A.block=some (T,cs.length):=by rw[hb];exact o7
   have hoff:A.off=off:=by rw[a2]
   refine bD.pure hR (Lib.run_from_unsafe (P:=P) w A hs hd hi hsh (by rw[hoff];exact hlt)) hx' hK
  exact hK.elim
def LQ {op : BinOp} {t te : TypeId} {i : TypeInfo} {x y : AV} {a b : Value} {ox oy : Operand} {ng : Bool} (hop : (op = .eql /\ ng = false) \/ (op = .neq /\ ng = true)) (hR : Rel g w σ) (hu : P.underlying t = some (.pointer te)) (hi : P.info? te = some i) (hx : VR g w x a) (hy : VR g w y b)
    (hK : match (generalizing := false) x, y with
      | .ref l o, .ref l' o' => l = l' /\ o = o' /\ match σ[l]? with
        | some (.bH _ _)=>K (.bool ng.not) σ
        | _=>False
      | _,_=>False):bD P (do eqGuard op t ox oy a b;binOp op t a b) g w σ K:=by
 cases hx<;>(try exact False.elim hK);rename_i l o h;cases hy<;>(try exact False.elim hK);rename_i l' o' h';obtain⟨rfl,rfl,hK⟩:=hK;obtain⟨hl,A,rfl,hA⟩:=h;obtain⟨_,A',rfl,vE⟩:=h';split at hK
 ·rename_i T cs hcs;obtain⟨o1,_⟩:=hR.ok l _ hcs;obtain⟨a1,a2⟩:=hA o1;obtain⟨a3,a4⟩:=vE o1
  have hAA:A'=A:=by
   rw[a1]at a3;have:A.block=A'.block:=Option.some.inj a3;rw[a2,a4,this]
  subst hAA
  have heq:∀ d:Nat,(Op.equalIn (d+1) t (.pointer (some A')) (.pointer (some A'))).run P w = .ok true w:=fun d=>by
   simp[Op.equalIn,run_underlying hu,sizeOf,typeInfo,hi,run_sameAddr_same]
  refine bD.pure hR (v:= .bool ng.not) ?_ (.bool _) hK
  have hg:(eqGuard op t ox oy (.pointer (some A')) (.pointer (some A'))).run P w = .ok () w:=by
   rcases hop with⟨rfl,_⟩|⟨rfl,_⟩<;>rfl
  simp only[Sem.run_bind,hg,Result.andThen_ok];rcases hop with⟨rfl,rfl⟩|⟨rfl,rfl⟩
  ·simp[binOp,Op.equal,Op.maxDepth,heq 9999]
  simp[binOp,Op.equal,Op.maxDepth,heq 9999]
 exact hK.elim
end
open Go.MapKept
def Rel.aaV {g : aC} {w w' : World} {σ : ai} {l b : Nat} {o : bG} (h : Rel g w σ) (hl : σ[l]? = some o) (ho : o.live = true) (hb : g.base l = some b) (v c fo : Nat) (o' : bG)
    (hsz:w'.heap.size=w.heap.size) (hos:w'.os=w.os) (rV:w'.tape=w.tape) (hout:w'.output=w.output)
    (mu:∀ c,c≠b->w'.heap[c]? = w.heap[c]?) (hok:jQ g w (g.push v (some b) c fo) w'->o'.Ok (g.push v (some b) c fo) w' g.n) :
    Rel (g.push v (some b) c fo) w' (σ.set l .dead++[o'])/\ep σ g w (σ.set l .dead++[o']) (g.push v (some b) c fo) w':=by
 have jg:Live σ l:=⟨o,hl,ho⟩;have FB:¬ g.eS b:=h.qy l b jg hb
 have hm:jQ g w (g.push v (some b) c fo) w':=⟨fun d hd=>⟨hd,mu d (fun e=>FB (e ▸ hd))⟩,Nat.le_succ _,fun k hk=>by
  have:k≠g.n:=eK hk;simp[aC.push,this]⟩
 have hbase:∀ k,k<g.n->(g.push v (some b) c fo).base k=g.base k:=fun k hk=>by simp[aC.push,eK hk]
 have hnew:(g.push v (some b) c fo).base g.n=some b:=by simp[aC.push]
 have hold:∀ k,Live (σ.set l .dead++[o']) k->(k<g.n/\k≠l/\Live σ k)\/k=g.n:=fun k hk=>by
  rcases mZ hk with hk|rfl
  ·rcases kL hk with⟨_,_,e⟩|⟨e,hk⟩
   ·simp[bG.live]at e
   exact .inl ⟨by rw[<-h.len];exact hk.lt,e,hk⟩
  exact .inr (by simp[h.len])
 refine⟨⟨by simp[aC.push,h.len],fun d hd=>by rw[hsz];exact h.lt d hd,fun k ok hk=>?_,fun k k' d hk hk' hd hd'=>?_,fun k d hk hd hi=>?_,h.glob.mono hm.eS⟩,
  ⟨hm,Nat.le_of_eq hsz.symm,hos,rV,hout,fun d hd ht=>mu d (fun e=>ht ⟨l,jg,e ▸ hb⟩),fun d _ hi=> .inl hi,fun d hd ht=>?_⟩⟩
 ·by_cases hlt:k<(σ.set l .dead).length
  ·rw[aO hlt]at hk;simp only[eC]at hlt;have hkn:k<g.n:=by rw[<-h.len];exact hlt
   by_cases e:k=l
   ·subst e;simp[hlt]at hk;subst hk;trivial
   rw[aI (Ne.symm e)]at hk;by_cases hv:ok.live=true
   ·exact(h.ok k ok hk).step hm hkn (by simp[aC.push,eK hkn]) (fun d hd=>mu d (fun e'=>e (h.inj k l d ⟨ok,hk,hv⟩ jg hd (e' ▸ hb))))
   ·cases ok<;>simp[bG.live]at hv;trivial
  have h1:=(aK.1 hk).1;simp at h1 hlt;have h2:k = σ.length:=ae;subst h2;simp at hk;subst hk;rw[h.len];exact hok hm
 ·rcases hold k hk with⟨k1,k2,k3⟩|rfl<;>rcases hold k' hk' with⟨k4,k5,k6⟩|rfl
  ·rw[hbase k k1]at hd;rw[hbase k' k4]at hd';exact h.inj k k' d k3 k6 hd hd'
  ·rw[hbase k k1]at hd;rw[hnew]at hd';cases hd';exact absurd (h.inj k l b k3 jg hd hb) k2
  ·rw[hbase k' k4]at hd';rw[hnew]at hd;cases hd;exact absurd (h.inj k' l b k6 jg hd' hb) k5
  rfl
 ·rcases hold k hk with⟨k1,k2,k3⟩|rfl
  ·rw[hbase k k1]at hd;exact h.qy k d k3 hd hi
  rw[hnew]at hd;cases hd;exact FB hi
 obtain⟨k,hk,hd'⟩:=ht;rcases hold k hk with⟨k1,k2,k3⟩|rfl
 ·exact⟨k,k3,by rw[hbase k k1]at hd';exact hd'⟩
 rw[hnew]at hd';cases hd';exact⟨l,jg,hb⟩
def Rel.kill {g : aC} {w : World} {σ : ai} {l : Nat} {o : bG} (h : Rel g w σ) (hl : σ[l]? = some o) (ho : o.live = true) :
    Rel g w (σ.set l .dead)/\ep σ g w (σ.set l .dead) g w:=by
 have:=h.change (w':=w) (o':= .dead) hl ho (g.ver l) (g.base l) (g.cap l) (g.off l) (aV _) (fun _=>⟨rfl,rfl,rfl⟩) (aV _) rfl rfl rfl (fun _ _ _=>rfl) (fun b hb=> .inl hb) (fun _=>trivial);rwa[aC.vY]at this
def Hl(g:aC)(v:Nat)(b:Option Nat)(c o:Nat): (g.push v b c o).off g.n=o:=by simp[aC.push]
section
variable {P:Program} {g:aC} {w:World} {σ : ai} {K:AV->ai->Prop}
def Ho{σ : ai}{l:Nat}{o:bG}(h : σ[l]? = some o): σ.set l o = σ:=by
 apply List.ext_getElem?;intro k;by_cases e:k=l
 ·subst e;rw[bI (aK.1 h).1];exact h.symm
 rw[aI (Ne.symm e)]
def tj: Option IntKind->TypeDesc->Bool
 | none,.string=>true
 | some k,.int k'=>k==k'
 | _,_=>false
def Bq{kd:Option IntKind}{d:TypeDesc}{k:AV}{v:Value}(hd:tj kd d=true)(hk:k.nG kd=true)(hv:VR g w k v): IsKey d v:=by
 cases kd with
 | none =>
   cases d<;>simp[tj]at hd;cases k<;>simp[AV.nG]at hk;cases hv;trivial
 | some q =>
   cases d<;>simp[tj]at hd;subst hd;cases k<;>simp[AV.nG]at hk;cases hv;exact hk.symm
def RX{kd:Option IntKind}{d:TypeDesc}{k q:AV}{v u:Value}{b:Bool}(hd:tj kd d=true)(hk:k.nG kd=true)(hv:VR g w k v)(hu:VR g w q u)(h:Fw k q=some b): Instr.sameNow d v u=some b:=by
 cases kd with
 | none =>
   cases d<;>simp[tj]at hd;cases k<;>simp[AV.nG]at hk;cases q<;>simp[Fw]at h;cases hv;cases hu;subst h;rename_i s s';simp only[Instr.sameNow,Option.some.injEq];have e:=bytes_beq ⟨s.toArray⟩ ⟨s'.toArray⟩;by_cases hs:s=s'
   ·subst hs;rw[e.2 rfl];simp
   have h1:¬ ((⟨s.toArray⟩:ByteArray)==⟨s'.toArray⟩)=true:=fun h=>hs (by have:=e.1 h;injection this with this;simpa using this);simp only[gN]at h1;rw[h1];simp[hs]
 | some k0 =>
   cases d<;>simp[tj]at hd;subst hd;cases k<;>simp[AV.nG]at hk;cases q<;>simp[Fw]at h;cases hv;cases hu;obtain⟨h1,h2⟩:=h;subst h1;simp[Instr.sameNow,h2]
def wh {kd : Option IntKind} {d : TypeDesc} {k : AV} {v : Value} (hd : tj kd d = true) (hk : k.nG kd = true) (hv : VR g w k v) : ∀ (es : List (AV × AV)) (ms : List MapEntry) (i : Nat) (r : Option (Nat × AV)), ms.length = es.length ->
    (∀ j,j<es.length->VR g w (es.getD j default).1 (ms.getD j default).key/\VR g w (es.getD j default).2 (ms.getD j default).val)->fM k es i=some r ->
    (r=none/\Instr.findNow d v ms i=some none)\/ ∃ j x u,r=some (i+j,x)/\Instr.findNow d v ms i=some (some (i+j,u))/\VR g w x u/\j<es.length/\Instr.sameNow d v (ms.getD j default).key=some true
 | [], ms, i, r, hl, h, hf => by
   simp[fM]at hf;have:ms=[]:=eP.1 hl;subst this;subst hf;exact .inl ⟨rfl,rfl⟩
 | (q, x) :: es, ms, i, r, hl, h, hf => by
   cases ms with
   | nil=>simp at hl
   | cons e ms =>
     have h0:=h 0 aT;simp only[cC]at h0;simp only[fM]at hf;split at hf
     ·rename_i he;cases hf;have hs:=RX hd hk hv h0.1 he;exact .inr ⟨0,x,e.val,rfl,by simp[Instr.findNow,hs],h0.2,aT,by simpa using hs⟩
     ·rename_i he;have hs:=RX hd hk hv h0.1 he;rcases wh hd hk hv es ms (i+1) r (by simpa using hl) (fun j hj=>by simpa using h (j+1) (by simpa using hj)) hf with⟨h1,h2⟩|⟨j,y,u,h1,h2,h3,h4,h5⟩
      ·exact .inl ⟨h1,by simp[Instr.findNow,hs,h2]⟩
      exact .inr ⟨j+1,y,u,by rw[h1];congr 2;omega,by simp[Instr.findNow,hs,h2];omega,h3,by simpa using h4,by simpa using h5⟩
     ·cases hf
def LR {ms : Array MapEntry} {es : List (AV × AV)} {clock : Nat} (h : ms.size = es.length) (h1 : clock = es.length) (h2 : ∀ i, i < es.length -> (ms.getD i default).born = i) (k u : Value) (p : AV × AV) :
    clock+1=(es++[p]).length/\ ∀ i,i<(es++[p]).length->((ms.push { key:=k,val:=u,born:=clock }).getD i default).born=i:=by
 refine⟨by simp[h1],fun i hi=>?_⟩;simp only[aG,aE,a_]at hi;by_cases e:i<es.length
 ·have h':i<ms.size:=ae;have:=h2 i e;simpa[Array.getElem?_push,eK h',h']using this
 have:i=ms.size:=ae;subst this;have e2:(ms.push { key:=k,val:=u,born:=clock }).getD ms.size default = { key:=k,val:=u,born:=clock }:=aT;rw[e2];show clock=_;omega
def zy {ms : Array MapEntry} {es : List (AV × AV)} {clock : Nat} (h : ms.size = es.length) (h1 : clock = es.length) (h2 : ∀ i, i < es.length -> (ms.getD i default).born = i) (j : Nat) (f : MapEntry -> MapEntry) (hf : ∀ e, (f e).born = e.born) (p : AV × AV) :
    clock=(es.set j p).length/\ ∀ i,i<(es.set j p).length->((ms.modify j f).getD i default).born=i:=by
 refine⟨by simp[h1],fun i hi=>?_⟩;simp only[eC]at hi;have h':i<ms.size:=ae;have:=h2 i hi;by_cases e:j=i
 ·subst e;simp only[bQ,h',Array.getElem?_eq_getElem,bF]at this;simp[h',fR,hf,this]
 simpa[h',fR,e]using this
def QN{t:TypeId}(hR:Rel g w σ)(hK:K (.mp σ.length) (σ++[.map []])): bD P (Instr.makeMap t none) g w σ K:=by
 obtain⟨r1,r2⟩:=hR.pG (.map #[] 0) (.map []) 0 0 ⟨by simp[aC.push],w.heap.size,#[],0,by simp[aC.push],heap_alloc_new w _,rfl,⟨rfl,fun i hi=>absurd hi (cJ _)⟩,fun i hi=>absurd hi (cJ _)⟩;refine⟨.map (some w.heap.size),_,_,_,_,?_,r1,r2,.mp _ _ ⟨by simp[aC.push,hR.len],_,rfl,fun _=>by simp[aC.push,hR.len]⟩,hK⟩;simp[Instr.makeMap]
def tq{ok:Bool}{v:AV}{u:Value}{b:Bool}(hv:VR g w v u): VR g w (if ok then .bg [v,.bool b]else v) (if ok then .tuple #[u,.bool b]else u):=by
 cases ok with
 | false=>simpa using hv
 | true =>
   refine .bg _ _ rfl (fun i hi=>?_)
   match i,hi with
   | 0,_=>exact hv
   | 1,_=>exact .bool b
def Tx {t key elem : TypeId} {d : TypeDesc} {kd : Option IntKind} {ok : Bool} {zero x k : AV} {a v : Value} (hR : Rel g w σ) (ht : P.underlying t = some (.map key elem)) (hkey : P.underlying key = some d) (hd : tj kd d = true)
    (hz:jv P elem=some zero) (hx:VR g w x a) (hv:VR g w k v)
    (hK : match (generalizing := false) x with
      | .iU=>k.nG kd=true/\K (if ok then .bg [zero,.bool false]else zero) σ
      | .mp l => k.nG kd = true /\ match σ[l]? with
        | some (.map es) => match fM k es 0 with
          | some (some (_,v))=>K (if ok then .bg [v,.bool true]else v) σ
          | some none=>K (if ok then .bg [zero,.bool false]else zero) σ
          | none=>False
        | _=>False
      | _=>False):bD P (Instr.lookup t a v ok) g w σ K:=by
 obtain⟨z,hz1,Gv⟩:=rm hz w;cases hx<;>simp only at hK
 case iU =>
  obtain⟨hk,hK⟩:=hK;have hi:=Bq hd hk hv;refine bD.pure hR (v:=if ok then .tuple #[z,.bool false]else z) ?_ (tq (Gv g w).1) hK;have hf:(Instr.findKey key v []).run P w = .ok none w:=run_findKey hkey rfl;have hc:(Instr.checkKey true 10000 key v).run P w = .ok () w:=run_checkKey hkey hi true 9999;simp[Instr.lookup,aU ht,hf,hc,hz1]
 case mp l h =>
  obtain⟨hk,hK⟩:=hK;have hi:=Bq hd hk hv;obtain⟨h1,b,rfl,h2⟩:=h;split at hK
  ·rename_i es vH;obtain⟨o1,b',ms,clock,o2,o3,o4,⟨Gw,Cz⟩,o5⟩:=hR.ok l _ vH;have oH:=h2 o1;rw[oH]at o2;cases o2;have hc:(Instr.checkKey ms.isEmpty 10000 key v).run P w = .ok () w:=run_checkKey hkey hi _ 9999;have hg:=Go.MapKept.run_getObj_map (P:=P) o3;have VM:∀ j,j<es.length->VR g w (es.getD j default).1 (ms.toList.getD j default).key/\VR g w (es.getD j default).2 (ms.toList.getD j default).val:=fun j hj=>by simpa using o5 j hj
   generalize VN:fM k es 0=fd at hK;cases fd with
   | none=>exact hK.elim
   | some r =>
     rcases wh hd hk hv es ms.toList 0 r (by simpa using o4) VM VN with⟨rfl,hf⟩|⟨j,x,u,rfl,hf,hxu,_⟩
     ·refine bD.pure hR (v:=if ok then .tuple #[z,.bool false]else z) ?_ (tq (Gv g w).1) hK;have vI:(Instr.findKey key v ms.toList).run P w = .ok none w:=run_findKey hkey hf;simp[Instr.lookup,aU ht,hg,vI,hc,hz1]
     refine bD.pure hR (v:=if ok then .tuple #[u,.bool true]else u) ?_ (tq hxu) hK;have vI:(Instr.findKey key v ms.toList).run P w = .ok (some (0+j,u)) w:=run_findKey hkey hf;simp[Instr.lookup,aU ht,hg,vI,hc]
  exact hK.elim
def Od {t key elem : TypeId} {d : TypeDesc} {kd : Option IntKind} {l : Nat} {k x : AV} {a v u : Value} {es es' : List (AV × AV)} (hR : Rel g w σ) (ht : P.underlying t = some (.map key elem)) (hkey : P.underlying key = some d) (hd : tj kd d = true)
    (hx:VR g w (.mp l) a) (hv:VR g w k v) (hu:VR g w x u) (hk:k.nG kd=true) (vH : σ[l]? = some (.map es)) (hs:uE k x es=some es') :
    ∃ w',(Instr.mapUpdate t a v u).run P w = .ok () w'/\Rel g w' (σ.set l (.map es'))/\ep σ g w (σ.set l (.map es')) g w':=by
 have hi:=Bq hd hk hv;cases hx;rename_i h;obtain⟨h1,b,rfl,h2⟩:=h;obtain⟨o1,b',ms,clock,o2,o3,o4,⟨Gw,Cz⟩,o5⟩:=hR.ok l _ vH;have oH:=h2 o1;rw[oH]at o2;cases o2;have hc:(Instr.checkKey false 10000 key v).run P w = .ok () w:=run_checkKey hkey hi _ 9999;have hg:=Go.MapKept.run_getObj_map (P:=P) o3;have VM:∀ j,j<es.length->VR g w (es.getD j default).1 (ms.toList.getD j default).key/\VR g w (es.getD j default).2 (ms.toList.getD j default).val:=fun j hj=>by simpa using o5 j hj
 have VO:∀ (ms':Array MapEntry) (ck:Nat),ms'.size=es'.length->(ck=es'.length/\ ∀ i,i<es'.length->(ms'.getD i default).born=i)->(∀ j,j<es'.length->VR g w (es'.getD j default).1 (ms'.getD j default).key/\VR g w (es'.getD j default).2 (ms'.getD j default).val) ->
  Rel g { w with heap:=w.heap.setIfInBounds b (.map ms' ck) } (σ.set l (.map es'))/\ep σ g w (σ.set l (.map es')) g { w with heap:=w.heap.setIfInBounds b (.map ms' ck) }:=fun ms' ck hl hbn hh =>
  hR.update (o':= .map es') vH rfl oH aT rfl rfl rfl (fun c hc=>(heap_set o3).2 c hc) (fun hm=>⟨o1,b,ms',ck,oH,(heap_set o3).1,hl,hbn,fun j hj=>⟨(hh j hj).1.mono hm,(hh j hj).2.mono hm⟩⟩)
 unfold uE at hs;generalize VN:fM k es 0=fd at hs;cases fd with
 | none=>cases hs
 | some r =>
   rcases wh hd hk hv es ms.toList 0 r (by simpa using o4) VM VN with⟨rfl,hf⟩|⟨j,y,q,rfl,hf,hxu,hj,hsame⟩
   ·simp only[Option.some.injEq]at hs;subst hs;have vI:(Instr.findKey key v ms.toList).run P w = .ok none w:=run_findKey hkey hf
    obtain⟨r1,r2⟩:=VO (ms.push { key:=v,val:=u,born:=clock }) (clock+1) (by simp[o4]) (LR o4 Gw Cz _ _ _) (fun i hi=>by
     simp only[aG,aE,a_]at hi;by_cases h:i<es.length
     ·have:=o5 i h;have h':i<ms.size:=ae;simpa[aO h,Array.getElem?_push,eK h',h']using this
     ·have:i=es.length:=ae;subst this;have e1:(es++[(k,x)]).getD es.length default=(k,x):=aT;have e2:(ms.push { key:=v,val:=u,born:=clock }).getD ms.size default = { key:=v,val:=u,born:=clock }:=aT;rw[e1,<-o4,e2];exact⟨hv,hu⟩)
    exact⟨_,by simp[Instr.mapUpdate,aU ht,hg,vI,hc,Go.MapKept.run_setObj_map (P:=P) (.map (ms.push { key:=v,val:=u,born:=clock }) (clock+1)) o3],r1,r2⟩
   simp only[Option.some.injEq,bp]at hs;subst hs;have vI:(Instr.findKey key v ms.toList).run P w = .ok (some (0+j,q)) w:=run_findKey hkey hf;have hj':j<ms.size:=ae
   have hkv:(ms.getD j default).key=v:=by
    have h3:Instr.sameNow d v (ms.toList.getD j default).key=some true:=hsame
    have h4:IsKey d (ms.toList.getD j default).key:=by
     cases d<;>cases v<;>simp[IsKey]at hi<;>(generalize (ms.toList.getD j default).key=z at h3;cases z<;>simp[Instr.sameNow]at h3)<;>simp_all[IsKey]
    obtain⟨r',h5,h6⟩:=sameNow_of_keys hi h4;rw[h3]at h5;cases h5;have:=h6.1 rfl;simpa using this.symm
   have Ty:((ms[j]?).map (·.key)).getD v=v:=by
    have:ms[j]? = some (ms.getD j default):=by simp[hj']
    rw[this];exact hkv
   obtain⟨r1,r2⟩:=VO (ms.modify j fun e=> { e with key:=v,val:=u }) clock (by simp[o4]) (zy o4 Gw Cz j (fun e=> { e with key:=v,val:=u }) (fun _=>rfl) _) (fun i hi=>by
    simp only[eC]at hi;have hi':i<ms.size:=ae;by_cases h:i=j
    ·subst h;simp[hi',hi,fR,hv,hu]
    ·have:=o5 i hi;simpa[hi',hi,fR,Ne.symm h,aI (Ne.symm h)]using this)
   refine⟨_,?_,r1,r2⟩;have hst:=run_keyThatStays (P:=P) (w:=w) hi;simp[Instr.mapUpdate,aU ht,hg,vI,hc,Ty,hst,Go.MapKept.run_setObj_map (P:=P) (.map (ms.modify j fun e=> { e with key:=v,val:=u }) clock) o3]
def Tz {t key elem : TypeId} {d : TypeDesc} {kd : Option IntKind} {zero x k : AV} {a v : Value} (hR : Rel g w σ) (ht : P.underlying t = some (.map key elem)) (hkey : P.underlying key = some d) (hd : tj kd d = true)
    (hz:jv P elem=some zero) (hx:VR g w x a) (hv:VR g w k v) (hK:vZ σ kd zero x k K):bD P (Instr.mapEntry t a v) g w σ K:=by
 obtain⟨z,hz1,Gv⟩:=rm hz w;unfold vZ at hK;cases hx<;>(try exact False.elim hK)
 case mp l h =>
 obtain⟨hk,hK⟩:=hK;have hi:=Bq hd hk hv;obtain⟨h1,b,rfl,h2⟩:=h;split at hK
 ·rename_i es vH;obtain⟨o1,b',ms,clock,o2,o3,o4,⟨Gw,Cz⟩,o5⟩:=hR.ok l _ vH;have oH:=h2 o1;rw[oH]at o2;cases o2;have hc:(Instr.checkKey false 10000 key v).run P w = .ok () w:=run_checkKey hkey hi _ 9999;have hg:=Go.MapKept.run_getObj_map (P:=P) o3;have VM:∀ j,j<es.length->VR g w (es.getD j default).1 (ms.toList.getD j default).key/\VR g w (es.getD j default).2 (ms.toList.getD j default).val:=fun j hj=>by simpa using o5 j hj
  have adn:∀ {g:aC} {w:World} {x:AV} {y:Value} {n:Nat},VR g w x y->VR g w (.bg [x,.int .i64 n]) (.tuple #[y,goInt n]):=fun h=> .bg _ _ rfl (fun i hi=>by
   match i,hi with
   | 0,_=>exact h
   | 1,_=>exact .int _ _)
  generalize VN:fM k es 0=fd at hK;cases fd with
  | none=>exact hK.elim
  | some r =>
    rcases wh hd hk hv es ms.toList 0 r (by simpa using o4) VM VN with⟨rfl,hf⟩|⟨j,y,q,rfl,hf,hxu,hj,hsame⟩
    ·have vI:(Instr.findKey key v ms.toList).run P w = .ok none w:=run_findKey hkey hf
     obtain⟨r1,r2⟩:=hR.update (w':= { w with heap:=w.heap.setIfInBounds b (.map (ms.push { key:=v,val:=z,born:=clock }) (clock+1)) }) (o':= .map (es++[(k,zero)])) vH rfl oH aT rfl rfl rfl (fun c hc=>(heap_set o3).2 c hc)
      (fun hm => ⟨o1, b, _, _, oH, (heap_set o3).1, by simp [o4], LR o4 Gw Cz _ _ _, fun i hi => by
        simp only[aG,aE,a_]at hi;by_cases h:i<es.length
        ·have:=o5 i h;have h':i<ms.size:=ae;simpa[aO h,Array.getElem?_push,eK h',h']using And.intro (this.1.mono hm) (this.2.mono hm)
        ·have:i=es.length:=ae;subst this;have e1:(es++[(k,zero)]).getD es.length default=(k,zero):=aT;have e2:(ms.push { key:=v,val:=z,born:=clock }).getD ms.size default = { key:=v,val:=z,born:=clock }:=aT;rw[e1,<-o4,e2];exact⟨hv.mono hm,(Gv _ _).1⟩⟩)
     refine⟨.tuple #[z,goInt clock],_,_,_,_,?_,r1,r2,by rw[Gw];exact adn (Gv _ _).1,hK⟩;simp[Instr.mapEntry,aU ht,hg,vI,hc,hz1,Go.MapKept.run_setObj_map (P:=P) (.map (ms.push { key:=v,val:=z,born:=clock }) (clock+1)) o3]
    have vI:(Instr.findKey key v ms.toList).run P w = .ok (some (0+j,q)) w:=run_findKey hkey hf;have hj':j<ms.size:=ae
    have hkv:(ms.getD j default).key=v:=by
     have h3:Instr.sameNow d v (ms.toList.getD j default).key=some true:=hsame
     have h4:IsKey d (ms.toList.getD j default).key:=by
      cases d<;>cases v<;>simp[IsKey]at hi<;>(generalize (ms.toList.getD j default).key=z at h3;cases z<;>simp[Instr.sameNow]at h3)<;>simp_all[IsKey]
     obtain⟨r',h5,h6⟩:=sameNow_of_keys hi h4;rw[h3]at h5;cases h5;have:=h6.1 rfl;simpa using this.symm
    have nh:ms[j]? = some (ms.getD j default):=by simp[hj']
    have Ty:((ms[j]?).map (·.key)).getD v=v:=by rw[nh];exact hkv
    have aik:((ms[j]?).map (fun x=>(x.born:Int))).getD 0=j:=by rw[nh];exact bC Int.ofNat (Cz j hj)
    have hst:=run_keyThatStays (P:=P) (w:=w) hi
    obtain⟨r1,r2⟩:=hR.update (w':= { w with heap:=w.heap.setIfInBounds b (.map (ms.modify j fun e=> { e with key:=v }) clock) }) (o':= .map es) vH rfl oH aT rfl rfl rfl (fun c hc=>(heap_set o3).2 c hc)
     (fun hm => ⟨o1, b, _, _, oH, (heap_set o3).1, by simp [o4], by have := zy o4 Gw Cz j (fun e => { e with key := v }) (fun _ => rfl) default; simpa using this, fun i hi => by
       have hi':i<ms.size:=ae;have:=o5 i hi;by_cases h:i=j
       ·subst h;have e3:(ms.getD i default).val=ms[i].val:=by simp[hi']
        have e4:es.getD i default=es[i]:=by simp[hi]
        have h5:=And.intro (this.1.mono hm) (this.2.mono hm);rw[hkv]at h5;simpa[hi',hi,fR]using h5
       ·simpa[hi',hi,fR,Ne.symm h]using And.intro (this.1.mono hm) (this.2.mono hm)⟩)
    rw[Ho vH]at r1 r2;refine⟨.tuple #[q,goInt j],_,_,_,_,?_,r1,r2,?_,hK⟩
    ·simp only[bp]at vI;simp[Instr.mapEntry,aU ht,hg,vI,hc,Ty,aik,hst,Go.MapKept.run_setObj_map (P:=P) (.map (ms.modify j fun e=> { e with key:=v }) clock) o3]
    rw[bp];exact adn (hxu.mono r2.mono)
 exact hK.elim
def TA {t : TypeId} {x s v : AV} {a b u : Value} (hR : Rel g w σ) (hx : VR g w x a) (hs : VR g w s b) (hu : VR g w v u) {K : ai -> Prop} (hK : uc σ x s v K) :
    ∃ w' σ',(Instr.entryStore t a b u).run P w = .ok () w'/\Rel g w' σ'/\ep σ g w σ' g w'/\K σ':=by
 unfold uc at hK;split at hK
 case h_2=>exact hK.elim
 rename_i l z;cases hx;rename_i h;cases hs;obtain⟨h1,b,rfl,h2⟩:=h;split at hK
 ·rename_i es vH;obtain⟨VP,hz1,hK⟩:=hK;obtain⟨o1,b',ms,clock,o2,o3,o4,⟨Gw,Cz⟩,o5⟩:=hR.ok l _ vH;have oH:=h2 o1;rw[oH]at o2;cases o2;have hg:=Go.MapKept.run_getObj_map (P:=P) o3;have hj':z.toNat<ms.size:=ae
  have RV:ms.findIdx? (fun e=>(e.born:Int)==z)=some z.toNat:=by
   rw[Array.findIdx?_eq_some_iff_getElem]
   have hbn:∀ i (hi:i<ms.size),ms[i].born=i:=fun i hi=>by
    have:=Cz i ae;simpa[hi]using this
   refine⟨hj',by rw[hbn];simp;omega,fun j hj=>?_⟩;rw[hbn];simp;omega
  obtain⟨r1,r2⟩:=hR.update (w':= { w with heap:=w.heap.setIfInBounds b (.map (ms.modify z.toNat fun e=> { e with val:=u }) clock) }) (o':= .map (es.set z.toNat ((es.getD z.toNat default).1,v))) vH rfl oH aT rfl rfl rfl (fun c hc=>(heap_set o3).2 c hc)
   (fun hm => ⟨o1, b, _, _, oH, (heap_set o3).1, by simp [o4], zy o4 Gw Cz z.toNat (fun e => { e with val := u }) (fun _ => rfl) _, fun i hi => by
     simp only[eC]at hi;have hi':i<ms.size:=ae;have:=o5 i hi;by_cases h:i=z.toNat
     ·subst h;have h5:=And.intro (this.1.mono hm) (hu.mono hm);simpa[hi',hi,fR]using h5
     ·simpa[hi',hi,fR,Ne.symm h,aI (Ne.symm h)]using And.intro (this.1.mono hm) (this.2.mono hm)⟩)
  refine⟨_,_,?_,r1,r2,hK⟩;simp[Instr.entryStore,hg,asInt,asIntOf,RV,Go.MapKept.run_setObj_map (P:=P) (.map (ms.modify z.toNat fun e=> { e with val:=u }) clock) o3]
 exact hK.elim
def TC {ats : Array TypeId} {r t k e : TypeId} {x : AV} {a : Value} (hR : Rel g w σ) (h0 : ats[0]? = some t) (ht : P.underlying t = some (.map k e)) (hx : VR g w x a)
    (hK : match (generalizing := false) x with
      | .iU=>K (.int .i64 0) σ
      | .mp l => match σ[l]? with
        | some (.map es)=>K (.int .i64 es.length) σ
        | _=>False
      | _=>False):bD P (Builtin.len_ ats r #[a]) g w σ K:=by
 cases hx<;>simp only at hK
 case iU=>exact bD.pure hR (v:=goInt 0) (by simp[Builtin.len_,h0,aU ht]) (.int _ _) hK
 case mp l h =>
  obtain⟨h1,b,rfl,h2⟩:=h;split at hK
  ·rename_i es vH;obtain⟨o1,b',ms,clock,o2,o3,o4,⟨Gw,Cz⟩,o5⟩:=hR.ok l _ vH;have oH:=h2 o1;rw[oH]at o2;cases o2;refine bD.pure hR (v:=goInt es.length) ?_ (.int _ _) hK;simp[Builtin.len_,h0,aU ht,Go.MapKept.run_getObj_map (P:=P) o3,o4]
  exact hK.elim
def abC{p:AV}{A:Addr}(d:Nat)(hp:p.ptr=true)(h:VR g w p (.pointer (some A))): VR g w (p.adv d) (.pointer (some (A.add d))):=by
 cases p<;>simp[AV.ptr]at hp<;>simp only[AV.adv]
 case ref l o =>
  cases h;rename_i hO;obtain⟨h1,A',h2,h3⟩:=hO;cases h2;refine .ref _ _ _ ⟨h1,_,rfl,fun e=>?_⟩;obtain⟨h4,h5⟩:=h3 e;rw[h5,add_plain];exact⟨by rw[h5]at h4;exact h4,rfl⟩
 case cN el y o =>
  cases h;rename_i hc h;rw[add_plain,bP];refine VR.cN el y _ _ _ ?_ ?_ ?_ ?_<;>assumption
 case dw el l m i o =>
  cases h;rename_i hO;obtain⟨h1,hm,A',h2,h3⟩:=hO;cases h2;refine .dw _ _ _ _ _ _ ⟨h1,hm,_,rfl,fun e=>?_⟩;obtain⟨h4,h5⟩:=h3 e;rw[h5,add_plain,bP];exact⟨by rw[h5]at h4;exact h4,rfl⟩
def QO{p:AV}{v:Value}(hp:p.ptr=true)(h:VR g w p v): ∃ A,v = .pointer (some A):=by
 cases p<;>simp[AV.ptr]at hp<;>cases h
 case ref hO=>obtain⟨_,A,h2,_⟩:=hO;exact⟨A,h2⟩
 case cN=>exact⟨_,rfl⟩
 case dw hO=>obtain⟨_,_,A,h2,_⟩:=hO;exact⟨A,h2⟩
def QS {lo hi : Option AV} {vl vh : Option Value} {n : Nat} {K : Nat -> Nat -> Prop} (hl : mH g w lo vl) (hh : mH g w hi vh)
    (hK:bound hi n n fun h=>bound lo 0 h fun l=>K l h) :
    ∃ l h:Nat,l<=h/\h<=n/\(Instr.sliceBounds false n n vl vh none).run P w = .ok (l,h,n) w/\K l h:=by
 obtain⟨h,hb,kb1,uI⟩:∃ h:Nat,h<=n/\(match vh with|some v=>Instr.sliceBound v n .sliceAlen|none=>Pure.pure n:Sem Nat).run P w = .ok h w/\bound lo 0 h fun l=>K l h:=by
  cases hi with
  | none => cases vh with
    | none=>exact⟨n,aV _,rfl,hK⟩
    | some v=>exact hh.elim
  | some u => cases vh with
    | none=>exact hh.elim
    | some v =>
      have Dy:VR g w u v:=hh;cases Dy<;>simp only[bound]at hK
      case int k i=>exact⟨i.toNat,ae,mG hK.1 ae,hK.2.2⟩
 obtain⟨l,lb,r1,r2⟩:∃ l:Nat,l<=h/\(match vl with|some v=>Instr.sliceBound v h .sliceB|none=>Pure.pure 0:Sem Nat).run P w = .ok l w/\K l h:=by
  cases lo with
  | none => cases vl with
    | none=>exact⟨0,cD _,rfl,uI⟩
    | some v=>exact hl.elim
  | some u => cases vl with
    | none=>exact hl.elim
    | some v =>
      have hl':VR g w u v:=hl;cases hl'<;>simp only[bound]at uI
      case int k i=>exact⟨i.toNat,ae,mG uI.1 uI.2.1,uI.2.2⟩
 refine⟨l,h,lb,hb,?_,r2⟩;cases vh<;>cases vl<;>simp_all[Instr.sliceBounds]
def VQ {t e : TypeId} {el : El} {n : Nat} {p : AV} {a : Value} {lo hi : Option AV} {vl vh : Option Value} (hR : Rel g w σ) (hu : P.underlying t = some (.array n e)) (he : iV P e = some el)
    (hx:VR g w p a) (hl:mH g w lo vl) (hh:mH g w hi vh) (hK:zp el n p lo hi fun v=>K v σ):bD P (Instr.sliceAt t a vl vh none) g w σ K:=by
 obtain⟨fi,hi',_,hs,_⟩:=ie he;obtain⟨hp,hK⟩:=hK;obtain⟨A,rfl⟩:=QO hp hx;obtain⟨l,h,q1,q2,q3,q4⟩:=QS (P:=P) hl hh hK;refine bD.pure hR (v:= .slice (some (if n=l then A else A.add (l*el.sz))) (h-l) (n-l)) ?_ ?_ q4
 ·simp[Instr.sliceAt,aU hu,Instr.sureAddr,q3,c_ hi',hs]
 by_cases e:h=l
 ·subst e;rw[aB rfl];simpa using VR.iz (g:=g) (w:=w) false el (some (if n=h then A else A.add (h*el.sz))) (n-h) aT
 rw[aq e,aq ae];exact .lX el _ _ _ _ ae ae (abC _ hp hx)
def Br {ats : Array TypeId} {r sT e : TypeId} {fi : TypeInfo} {w' : World} {base : Option Addr} {dl dc N : Nat} {b : Value} {us : Array Value}
    (h0:ats[0]? = some sT) (hu:P.underlying sT=some (.slice e)) (hi:P.info? e=some fi) (hl:(Builtin.lenOf b).run P w = .ok N w)
    (hf:(Builtin.firstCells fi.size (min N dl) b).run P w = .ok us w) (hst:∀ A,base=some A->(storeCells A us.toList).run P w = .ok () w') (hn:base=none->w'=w) :
    (Builtin.copy_ ats r #[.slice base dl dc,b]).run P w = .ok (.int .i64 (min N dl:Nat)) w':=by
 have vI:(Builtin.firstCells fi.size (N.min dl) b).run P w = .ok us w:=hf;unfold Builtin.copy_;simp only[dO,cE,cR,h0,Sem.run_bind,aU hu,Result.andThen_ok,hl,c_ hi,vI];cases base with
 | none=>rw[hn rfl];rfl
 | some A=>simp[hst A rfl,goInt]
def LS{el:El}{ys:List AV}(h:ys.all (fun a=>a.fits el)=true)(m:Nat): ∀ i,i<(ys.take m).length->((ys.take m).getD i .undef).fits el=true:=fun i hi=>by
 simp only[dH]at hi;have h1:i<ys.length:=ae;have h2:i<m:=ae;have:=bt.1 h (ys[i]) (c9 _);simpa[h1,h2]using this
def TD {ats : Array TypeId} {r sT e : TypeId} {el : El} {x y : AV} {a b : Value} (hR : Rel g w σ)
    (h0:ats[0]? = some sT) (hu:P.underlying sT=some (.slice e)) (he:iV P e=some el)
    (hx:VR g w x a) (hy:VR g w y b) (qJ:Io σ el x y K):bD P (Builtin.copy_ ats r #[a,b]) g w σ K:=by
 obtain⟨fi,hi',_,hs,_⟩:=ie he
 have TE:∀ {base:Option Addr} {dc:Nat},a = .slice base 0 dc->(∀ ys:List AV,wZ σ el x ys K->K (.int .i64 0) σ)->bD P (Builtin.copy_ ats r #[a,b]) g w σ K:=fun {base dc} ha hk=>by
  obtain⟨ys,us,k1,k2,k3,k4,k5⟩:=r7 (P:=P) 0 hR hy qJ;have vG:us = #[]:=eZ (by simpa using k4);subst ha;refine bD.pure hR (v:= .int .i64 (min ys.length 0:Nat)) (Br (us:=us) h0 hu hi' k2 (by rw[hs];exact k3) (fun A _=>by rw[vG];simp[storeCells]) (fun _=>rfl)) (by simpa using VR.int _ _) (hk ys k1.2)
 cases hx<;>(try exact(let ⟨_,_,h,_⟩:=r7 (P:=P) 0 hR hy qJ;h.2.elim))
 case aP=>exact TE rfl fun ys h=>h
 case iz f aS base cap hf=>exact TE rfl fun ys h=>h.2
 case aH f aS xs b' off cap hi hf hx ft hc h =>
  cases xs with
  | nil=>exact TE rfl fun ys h=>h.2
  | cons z zs=>exact(let ⟨_,_,h,_⟩:=r7 (P:=P) 0 hR hy qJ;h.2.elim)
 case lX aS p n A cap hn hc h =>
  obtain⟨ys,us,⟨hfit,hK⟩,k2,k3,k4,k5⟩:=r7 (P:=P) n hR hy qJ;obtain⟨rfl,rfl,hK⟩:=hK;have ht:=LS hfit n;have hlen:(ys.take n).length=min n ys.length:=aT
  obtain⟨A',w',g',σ',e1,r1,r2,r3,r4⟩:=Gs (P:=P) (x:= .agg (ys.take n)) (us:=us.toList) hR h (by simp only[AV.cells,dB,k4,hlen];omega) (fun i hi=>by
   simp only[AV.cells]at hi |-;have h1:=k5 i 0 hi aT;have h2:=ht i hi
   have hc0:((ys.take n).getD i .undef).cell 0=(ys.take n).getD i .undef:=by
    generalize (ys.take n).getD i .undef=z at h2;cases z<;>first|rfl|(simp[AV.fits]at h2;done)
   rw[hc0]at h1;simpa using h1) (lJ k5 (by rw[k4,hlen];congr 1;omega) ht) hK
  cases e1;exact⟨_,_,g',_,_,Br (us:=us) h0 hu hi' k2 (by rw[hs];exact k3) (fun A e=>by cases e;exact r1) (fun e=>by cases e),r2,r3,.int _ _,r4⟩
 case own aS l m o n h =>
  have zx:VR g w (.own aS l m o n) a:= .own _ _ _ _ _ _ h;obtain⟨ys,us,⟨hfit,hK⟩,k2,k3,k4,k5⟩:=r7 (P:=P) n hR hy qJ;obtain⟨rfl,hK⟩:=hK;obtain⟨q1,q2,A,cap,rfl,q3⟩:=h;split at hK
  ·rename_i T bq xs hxs;obtain⟨rfl,rfl,k6,hK⟩:=hK;have ht:=LS hfit n;have hlen:(ys.take n).length=min ys.length n:=by simp;omega
   rcases Nat.eq_zero_or_pos (min ys.length n)with hz|hz
   ·have h1:ys.take n=[]:=eA ae;have vG:us = #[]:=eZ (by rw[k4,hz];simp);rw[h1]at hK;simp only[dm,Ho hxs]at hK;exact bD.pure hR (Br (us:=us) h0 hu hi' k2 (by rw[hs];exact k3) (fun A _=>by rw[vG];simp[storeCells]) (fun _=>rfl)) (.int _ _) hK
   obtain⟨o1,o2,o3⟩:=hR.ok l _ hxs;obtain⟨q4,q5,q6⟩:=q3 o1.symm;rcases o3 with⟨rfl,_,_⟩|⟨b',vs,b1,b2,b3,b4,b5,b6⟩
   ·simp at q4;omega
   have q7:=q6 ae;rw[b1]at q7;simp only[cB]at q7;subst q7
   have hrow:g.off l+(o+n)*bq.sz<=vs.size:=by
    have:(o+n)*bq.sz<=g.cap l*bq.sz:=bw _ ae;omega
   have hle:min ys.length n*bq.sz<=n*bq.sz:=bw _ ae;have hroom:g.off l+o*bq.sz+us.size<=vs.size:=by rw[bJ]at hrow;omega
   have hrun:=nI (P:=P) (b:=b') (o:=g.off l+o*bq.sz) us.toList w vs 0 b2.1 (by simpa using hroom) (lJ k5 (by rw[k4,hlen]) ht);obtain⟨f1,f2,f3,f4,f5⟩:=jt w b' (g.off l+o*bq.sz+0) us.toList
   obtain⟨r1,r2⟩:=hR.update (o':= .bW T bq (dm xs o (ys.take n))) hxs rfl b1 f1 f2 f3 f4 f5
    (fun hm => ⟨by rw [fq]; exact o1, fun i hi => by
      rw[fq]at hi;rw[mg _ _ _ ae];split
      ·rename_i hh;exact ht _ ae
      ·exact o2 i hi,
      .inr ⟨b',_,b1,b2.setRow _ _,by rw[size_putRow];exact b3,by rw[fq];exact b4,fun i c hi hc=>by
       rw[fq]at hi;rw[mg _ _ _ ae,jd _ _ _ (by simpa using hroom)];simp only[dB,dP,hlen,k4];by_cases h1:o<=i/\i<o+min ys.length n
       ·obtain⟨j,rfl⟩:∃ j,i=o+j:=⟨i-o,ae⟩;have hj:j<min ys.length n:=ae;have h2:=mI hj hc;rw[aB h1,aB (by rw[bJ];omega),show g.off l+(o+j)*bq.sz+c-(g.off l+o*bq.sz)=j*bq.sz+c by rw[bJ];omega,show o+j-o=j by omega];have:=(k5 j c ae hc).mono hm;simpa using this
       ·have hne : ¬ (g.off l + o * bq.sz <= g.off l + i * bq.sz + c /\ g.off l + i * bq.sz + c < g.off l + o * bq.sz + min ys.length n * bq.sz) := by
         rintro⟨z1,z2⟩;rcases Nat.lt_or_ge i o with h2|h2
         ·have:(i+1)*bq.sz<=o*bq.sz:=bw _ h2;rw[dy]at this;omega
         have:(o+min ys.length n)*bq.sz<=i*bq.sz:=bw _ ae;rw[bJ]at this;omega
        rw[aq h1,aq hne];exact(b5 i c hi hc).mono hm,by
       cases T with
       | none=>trivial
       | some T=>rw[size_putRow];exact⟨(pH _ _ _ _ _).trans b6.1,b6.2⟩⟩⟩)
   exact⟨_,_,g,_,_,Br (us:=us) h0 hu hi' k2 (by rw[hs];exact k3) (fun A e=>by cases e;exact hrun) (fun e=>by cases e),r1,r2,.int _ _,hK⟩
  exact hK.elim
def QU {ats : Array TypeId} {r sT xT e : TypeId} {d : TypeDesc} {el : El} {base : Option Addr} {sLen sCap : Nat} {x : Value} {us : Array Value}
    (h0:ats[0]? = some sT) (h1:ats[1]? = some xT) (hu:P.underlying sT=some (.slice e)) (hx:P.underlying xT=some d) (hd:∀ k,d≠ .int k) (he:iV P e=some el)
    (hl:(Builtin.lenOf x).run P w = .ok 0 w) (hc:sLen<=sCap) (hn:(Builtin.firstCells el.sz 0 x).run P w = .ok us w) (vG:us = #[]) :
    (Builtin.append_ ats r #[.slice base sLen sCap,x]).run P w = .ok (.slice base sLen sCap) w:=by
 obtain⟨fi,hi,_,hs,_⟩:=ie he;have hfalse:((d matches .int _):Bool)=false:=by cases d<;>first|rfl|exact absurd rfl (hd _)
 rw[vG]at hn;unfold Builtin.append_;simp only[dO,cE,cR,h0,h1,Sem.run_bind,aU hu,Result.andThen_ok,c_ hi,hs,aU hx,Sem.run_pure,hfalse,hl,aN,if_false,dP,aB hc,hn,gY,if_true];cases base<;>simp[storeCells]
def LU {ats : Array TypeId} {r sT xT e : TypeId} {d : TypeDesc} {el : El} {x y : AV} {a b : Value} (hR : Rel g w σ)
    (h0:ats[0]? = some sT) (h1:ats[1]? = some xT) (hu:P.underlying sT=some (.slice e)) (hd':P.underlying xT=some d) (hd:∀ k,d≠ .int k) (he:iV P e=some el)
    (hx:VR g w x a) (hy:VR g w y b) (qJ:zo σ el x y K):bD P (Builtin.append_ ats r #[a,b]) g w σ K:=by
 unfold zo at qJ;split at qJ
 ·rename_i aS l m lo n;obtain⟨rfl,qJ⟩:=qJ;have zx:=hx;cases hx;rename_i h;obtain⟨q1,q2,A,cap,rfl,q3⟩:=h;obtain⟨ys,news,⟨hfit,hK⟩,hl,uJ,hsz,hh⟩:=mJ (P:=P) hR hy qJ
  have yD:∀ i,i<ys.length->(ys.getD i .undef).fits aS=true:=fun i hi=>by
   have:=bt.1 hfit (ys[i]) (c9 _);simpa[hi]using this
  have h1c:=lJ hh hsz yD;split at hK
  ·rename_i T bq xs hxs;obtain⟨rfl,rfl,k3,hr,hK⟩:=hK;obtain⟨o1,o2,o3⟩:=hR.ok l _ hxs;obtain⟨q4,q5,q6⟩:=q3 o1.symm;rcases o3 with⟨rfl,_,_⟩|⟨b',vs,b1,b2,b3,b4,b5,b6⟩
   ·simp at k3
   have hfo:vs.size=g.off l+(lo+1)*bq.sz+cap*bq.sz:=by
    rw[b3,<-q5,bJ cap,Nat.add_comm (cap*_),bP]
   have yE:(xs.drop (lo+1)).length=n:=by simp;omega
   have Gx:(xs.drop (lo+1)++ys).length=n+ys.length:=by simp;omega
   have LO:∀ i,i<(xs.drop (lo+1)++ys).length->((xs.drop (lo+1)++ys).getD i .undef).fits bq=true:=fun i hi=>by
    rw[Gx]at hi;by_cases h:i<n
    ·have:=o2 (lo+1+i) ae;have h':i<(xs.drop (lo+1)).length:=ae;simpa[aO h']using this
    obtain⟨j,rfl⟩:∃ j,i=n+j:=⟨i-n,ae⟩;have:=yD j ae;rw[<-yE];simpa[bx]using this
   have left:∀ i c,i<n->c<bq.sz->VR g w (((xs.drop (lo+1)).getD i .undef).cell c) (vs.getD (g.off l+(lo+1)*bq.sz+i*bq.sz+c) Go.undef):=fun i c hi hc=>by
    have:=b5 (lo+1+i) c ae hc;rw[show g.off l+(lo+1+i)*bq.sz+c=g.off l+(lo+1)*bq.sz+i*bq.sz+c by rw[bJ (lo+1)];omega]at this;rw[show (xs.drop (lo+1)).getD i .undef=xs.getD (lo+1+i) .undef by simp];exact this
   have ado:∀ i,i<n->(xs.drop (lo+1)++ys).getD i .undef=(xs.drop (lo+1)).getD i .undef:=fun i hi=>by
    have h':i<(xs.drop (lo+1)).length:=ae;simp[aO h']
   have akj:∀ j,(xs.drop (lo+1)++ys).getD (n+j) .undef=ys.getD j .undef:=fun j=>by
    rw[<-yE];simp[bx]
   by_cases hc:n+ys.length<=cap
   ·rcases Nat.eq_zero_or_pos ys.length with hz|hz
    ·have hys:ys=[]:=eA hz;subst hys;have hne:news = #[]:=eZ (by simpa using hsz);have hrun:=QU (P:=P) (r:=r) (base:=A) (sLen:=n) (sCap:=cap) h0 h1 hu hd' hd he hl (by simpa using hc) (uJ w rfl) hne
     obtain⟨r1,r2⟩:=hR.aaV (w':=w) hxs rfl b1 n cap (g.off l+(lo+1)*bq.sz) (.vec bq (xs.drop (lo+1)++[])) rfl rfl rfl rfl (fun _ _=>rfl)
      (fun hm => ⟨by simp [aC.push]; omega, LO, .inr ⟨b', vs, by simp [aC.push], b2, by simp [aC.push]; exact hfo, by simp [aC.push]; omega, fun i c hi lg => by
        rw[Gx]at hi;rw[Hl];rw[ado i (by simpa using hi)];exact(left i c (by simpa using hi) lg).mono hm,trivial⟩⟩)
     refine⟨_,_,_,_,_,hrun,r1,r2,.own _ _ _ _ _ _ ⟨by simp[aC.push,hR.len],by simp[aC.push,hR.len],_,_,rfl,fun _=>⟨ae,by simp[aC.push,hR.len],fun hlt=>?_⟩⟩,hK⟩;simp only[aC.push,hR.len,if_true]at hlt |-;rw[q6 ae,b1];simp
    have q7:=q6 ae;rw[b1]at q7;simp only[cB]at q7;subst q7;have hle:(n+ys.length)*bq.sz<=cap*bq.sz:=bw _ hc;rw[bJ]at hle;have hroom:g.off l+(lo+1)*bq.sz+n*bq.sz+news.size<=vs.size:=ae;have hrun:=Gt (P:=P) (r:=r) (b:=b') (o:=g.off l+(lo+1)*bq.sz) (sLen:=n) h0 h1 hu hd' hd he hl hc (uJ w rfl) b2.1 hroom h1c;obtain⟨f1,f2,f3,f4,f5⟩:=jt w b' (g.off l+(lo+1)*bq.sz+n*bq.sz) news.toList
    obtain⟨r1,r2⟩:=hR.aaV hxs rfl b1 (n+ys.length) cap (g.off l+(lo+1)*bq.sz) (.vec bq (xs.drop (lo+1)++ys)) f1 f2 f3 f4 f5
     (fun hm => ⟨by simp [aC.push]; omega, LO, .inr ⟨b', _, by simp [aC.push], b2.setRow _ _, by rw [size_putRow]; simp [aC.push]; exact hfo, by simp [aC.push]; omega, fun i c hi lg => by
       rw[Gx]at hi;rw[Hl];rw[jd _ _ _ (by simpa using hroom)];simp only[dB,hsz];by_cases h:i<n
       ·have h2:=mI h lg;rw[aq ae,ado i h];exact(left i c h lg).mono hm
       ·obtain⟨j,rfl⟩:∃ j,i=n+j:=⟨i-n,ae⟩;have hj:j<ys.length:=ae;have h2:=mI hj lg;rw[akj,aB (by rw[bJ n];omega),show g.off l+(lo+1)*bq.sz+(n+j)*bq.sz+c-(g.off l+(lo+1)*bq.sz+n*bq.sz)=j*bq.sz+c by rw[bJ n];omega];have:=(hh j c hj lg).mono hm;simpa using this,trivial⟩⟩)
    refine⟨_,_,_,_,_,hrun,r1,r2,.own _ _ _ _ _ _ ⟨by simp[aC.push,hR.len],by simp[aC.push,hR.len],_,_,rfl,fun _=>⟨ae,by simp[aC.push,hR.len],fun hlt=>?_⟩⟩,hK⟩;simp[aC.push,hR.len]
   obtain⟨xs',olds,p1,p2,p3,p4,p5⟩:=mJ (P:=P) (K:=fun zs=>zs=(xs.drop (lo+1)).take n) (el:=bq) hR zx (by simp[fL,hxs]);have akk:xs'=xs.drop (lo+1):=by rw[p1];exact cM ae
   subst akk;rw[yE]at p2 p3 p4;obtain⟨cap',rest,dr,k1,k2,k6⟩:=Hi (P:=P) (r:=r) (base:=A) (sLen:=n) (sCap:=cap) h0 h1 hu hd' hd he hl ae hr (fun _=>p3 _ rfl) (fun _=>uJ _ rfl);have k4:=p5.append (rest:=rest) hh (by rw[yE];exact p4) hsz
   have k3:(olds++news++rest).size=cap'*bq.sz:=by
    simp only[iO,p4,hsz,k2];rw[<-bJ,<-bJ]
    congr 1
    omega
   obtain⟨r0,e0⟩:=hR.kill hxs rfl;have kE:=r0.drew dr;have hm:=kj g { w with drawn:=dr } (.cells (olds++news++rest) e) (n+ys.length) (some w.heap.size) cap' kE.lt
   obtain⟨r1,r2⟩:=kE.pG (.cells (olds++news++rest) e) (.vec bq (xs.drop (lo+1)++ys)) (n+ys.length) cap'
    ⟨by simp [aC.push]; omega, LO, .inr ⟨w.heap.size, _, by simp [aC.push], mF _ _ _ e, by simp only [aC.push, if_true, bp]; exact k3, by simp [aC.push]; omega, fun i c hi hc => by
      rw[Hl,bp];exact((k4 i c hi hc).mono (ep.drew σ g w dr).mono).mono hm,trivial⟩⟩
   have hlen:=hR.len;refine⟨_,_,_,_,_,k6,r1,e0.trans ((ep.drew (σ.set l .dead) g w dr).trans r2),.own _ _ _ _ _ _ ⟨by simp[aC.push,hR.len],by simp[aC.push,hR.len],_,_,rfl,fun _=>⟨ae,by simp[aC.push,hR.len],fun _=>by simp[aC.push,hR.len]⟩⟩,hK⟩
  exact hK.elim
 exact yC hR h0 h1 hu hd' hd he hx hy (.inl rfl) qJ
def VT{x:AV}{v:Value}(hR:Rel g w σ)(hx:VR g w x v)(hK:Bh σ x K): bD P (pure v) g w σ K:=by
 unfold Bh at hK;split at hK
 ·exact .pure hR rfl hx hK
 ·exact .pure hR rfl hx hK
 ·rename_i el l m lo n;split at hK
  ·rename_i T aS xs hl;obtain⟨rfl,rfl,hn,hK⟩:=hK;cases hx with
   | own _ _ _ _ _ _ hO =>
   obtain⟨_,_,A,cap,rfl,h4⟩:=hO;obtain⟨mz,CA,hrow⟩:=hR.ok l _ hl;have hlen:((xs.drop lo).take n).length=n:=by simp;omega
   by_cases Gy:n=0
   ·subst Gy;rw[List.take_zero]at hK;obtain⟨r1,r2⟩:=hR.kill hl rfl;exact⟨_,w,_,_,_,rfl,r1,r2,.iz false aS A cap (fun h=>by cases h),hK⟩
   rcases hrow with⟨hx,_,_⟩|⟨b,vs,hb,hrow,hsz,hle,hc,_⟩
   ·subst hx;simp at hn;omega
   obtain⟨_,h6,h7⟩:=h4 mz.symm;have hlt:lo<g.cap l:=ae;have hA:=h7 hlt;rw[hb]at hA;simp only[cB]at hA;subst hA
   have hidx:∀ i c,i<n->c<aS.sz->g.off l+(lo+i)*aS.sz+c<vs.size:=fun i c h1 h2=>by
    rw[hsz];have:(lo+i)*aS.sz+aS.sz<=g.cap l*aS.sz:=by rw[<-dy];exact bw _ ae
    omega
   have hoff:∀ i c,g.off l+lo*aS.sz+(i*aS.sz+c)=g.off l+(lo+i)*aS.sz+c:=fun i c=>by rw[bJ];omega
   have nh:∀ i,i<n->((xs.drop lo).take n).getD i .undef=xs.getD (lo+i) .undef:=fun i hi=>by
    simp[aj,dX,hi]
   obtain⟨r1,r2⟩:=hR.freeze hl rfl hb;refine⟨_,w,_,_,_,rfl,r1,r2,?_,hK⟩;have key:=VR.aH (g:=g.oE b) (w:=w) false aS ((xs.drop lo).take n) b (g.off l+lo*aS.sz) cap (.inr rfl) (fun h=>by cases h) ae (fun i h1=>?_) (fun i c h1 h2=>?_) (fun i c h1 h2=>?_)
   ·rw[hlen]at key;exact key
   ·rw[hlen]at h1;rw[nh i h1];exact CA (lo+i) ae
   ·rw[hlen]at h1;rw[hoff,hrow.cell (hidx i c h1 h2)];rfl
   rw[hlen]at h1;rw[hoff,nh i h1]
   have e1:dn w ⟨b,g.off l+(lo+i)*aS.sz+c,none⟩=vs.getD (g.off l+(lo+i)*aS.sz+c) Go.undef:=by
    simp only[dn,hrow.cell (hidx i c h1 h2),bF]
   rw[e1];exact(hc (lo+i) c ae h2).mono r2.mono
  exact hK.elim
 exact hK.elim
def TF {ats : Array TypeId} {r sT xT e : TypeId} {d : TypeDesc} {el : El} {x y : AV} {a b : Value} (hR : Rel g w σ)
    (h0:ats[0]? = some sT) (h1:ats[1]? = some xT) (hu:P.underlying sT=some (.slice e)) (hd':P.underlying xT=some d) (hd:∀ k,d≠ .int k) (he:iV P e=some el)
    (hx:VR g w x a) (hy:VR g w y b) (qJ:Fx σ el x y fun v=>K v σ):bD P (Builtin.append_ ats r #[a,b]) g w σ K:=by
 obtain⟨ys,news,⟨hfit,hz,hK⟩,hl,uJ,hsz,hh⟩:=mJ (P:=P) hR hy qJ
 have yD:∀ i,i<ys.length->(ys.getD i .undef).fits el=true:=fun i hi=>by
  have:=bt.1 hfit (ys[i]) (c9 _);simpa[hi]using this
 have hn:∀ dr,(Builtin.firstCells el.sz ys.length b).run P { w with drawn:=dr } = .ok news { w with drawn:=dr }:=fun dr=>uJ _ rfl
 have key:∀ (xs:List AV) (olds:Array Value) (base:Option Addr) (sCap:Nat),a = .slice base xs.length sCap->sCap<xs.length+ys.length->fE (xs.length+ys.length) el ->
  (∀ dr,(Builtin.firstCells el.sz xs.length (.slice base xs.length sCap)).run P { w with drawn:=dr } = .ok olds { w with drawn:=dr }) ->
  olds.size=xs.length*el.sz->iB g w el xs olds->(∀ i,i<xs.length->(xs.getD i .undef).fits el=true)->K (.aH false el (xs++ys)) σ->bD P (Builtin.append_ ats r #[a,b]) g w σ K:=by
  intro xs olds base sCap ha hc hr ho hos hoh hof hk;obtain⟨cap,rest,dr,k1,k2,k3⟩:=Hi (P:=P) (r:=r) h0 h1 hu hd' hd he hl hc hr ho hn;have hzs:iB g w el (xs++ys) (olds++news++rest):=hoh.append hh hos hsz
  have hsize:(olds++news++rest).size=cap*el.sz:=by
   simp only[iO,hos,hsz,k2];rw[<-bJ,<-bJ]
   congr 1
   omega
  have LO:∀ i,i<(xs++ys).length->((xs++ys).getD i .undef).fits el=true:=fun i hi=>by
   simp only[aG]at hi;by_cases h:i<xs.length
   ·have:=hof i h;simpa[aO h]using this
   obtain⟨j,rfl⟩:∃ j,i=xs.length+j:=⟨i-xs.length,ae⟩;have:=yD j ae;simpa[bx]using this
  have kE:=hR.drew dr;have hrow:=uH { w with drawn:=dr } (olds++news++rest) e;have hm:=tg g { w with drawn:=dr } (.cells (olds++news++rest) e) kE.lt;obtain⟨r1,r2⟩:=kE.NZ (.cells (olds++news++rest) e)
  have hlt:∀ i c,i<(xs++ys).length->c<el.sz->i*el.sz+c<(olds++news++rest).size:=fun i c hi hc=>by
   rw[hsize]
   have h2:i*el.sz+el.sz<=cap*el.sz:=by
    rw[<-dy];refine bw _ ?_;simp only[aG]at hi;omega
   omega
  refine⟨_,_,_,_,σ,by rw[ha];exact k3,r1,(ep.drew σ g w dr).trans r2,?_,hk⟩
  have:=VR.aH (g:=g.oE w.heap.size) (w:=World.alloc { w with drawn:=dr } (.cells (olds++news++rest) e)) false el (xs++ys) w.heap.size 0 cap (.inr rfl) (fun h=>by cases h) (by simpa using k1) LO
   (fun i c hi hc=>by rw[bp,hrow.cell (hlt i c hi hc)];rfl)
   (fun i c hi hc => by
     have e1:dn (World.alloc { w with drawn:=dr } (.cells (olds++news++rest) e)) ⟨w.heap.size,0+(i*el.sz+c),none⟩=(olds++news++rest).getD (i*el.sz+c) Go.undef:=by
      unfold dn;rw[Nat.zero_add,hrow.cell (hlt i c hi hc)];rfl
     rw[e1];exact((hzs i c hi hc).mono (ep.drew σ g w dr).mono).mono hm)
  simpa using this
 cases hx<;>(try exact False.elim hK)
 case aP =>
  exact key [] #[] none 0 rfl (by simp;omega) (by simpa using hK.1) (fun _=>rfl) aT (fun i c hi=>absurd hi (cJ _)) (fun i hi=>absurd hi (cJ _)) hK.2
 case iz f aS base cap hf =>
  cases f with
  | false=>exact hK.elim
  | true =>
    obtain⟨rfl,hr,hK⟩:=hK;have hcap:cap=0:=hf rfl;subst hcap;exact key [] #[] base 0 rfl (by simp;omega) (by simpa using hr) (fun _=>by cases base<;>simp[Builtin.firstCells,loadCells,loadCellsFrom]) aT (fun i c hi=>absurd hi (Nat.not_lt_zero _)) (fun i hi=>absurd hi (Nat.not_lt_zero _)) hK
 case aH f aS xs b' off cap sV hf z_ ft hc h =>
  cases f with
  | false=>exact hK.elim
  | true =>
    obtain⟨rfl,hr,hK⟩:=hK;have hcap:cap=xs.length:=hf rfl;subst hcap;have zx:VR g w (.aH true aS xs) (.slice (some ⟨b',off,none⟩) xs.length xs.length):= .aH true aS xs b' off _ sV hf z_ ft hc h;obtain⟨xs',olds,q1,q2,q3,q4,q5⟩:=mJ (P:=P) (K:=fun zs=>zs=xs) (el:=aS) hR zx (by simp[fL]);subst q1;exact key xs' olds _ xs'.length rfl ae hr (fun _=>q3 _ rfl) q4 q5 ft hK
def qL {lo : Option AV} {hi mx : AV} {vl : Option Value} {vh vm : Value} {len cap YG : Nat} {K : Nat -> Nat -> Nat -> Prop} (hl : mH g w lo vl) (hh : VR g w hi vh) (hm : VR g w mx vm) (gQ : YG <= cap)
    (hK:mc lo hi mx YG K) :
    ∃ l h m:Nat,l<=h/\h<=m/\m<=YG/\(Instr.sliceBounds true len cap vl (some vh) (some vm)).run P w = .ok (l,h,m) w/\K l h m:=by
 unfold mc at hK;cases hm<;>simp only[bound]at hK;rename_i k1 m;obtain⟨m0,m1,hK⟩:=hK;cases hh<;>simp only[bound]at hK;rename_i k2 h;obtain⟨h0,h1,hK⟩:=hK;have e1:=mG (P:=P) (w:=w) (k:=k1) (code:= .slice3Acap) m0 (show m<=(cap:Int) by omega);have e2:=mG (P:=P) (w:=w) (k:=k2) (code:= .slice3B) h0 (show h<=(m.toNat:Int) by omega)
 obtain⟨l,lb,r1,r2⟩:∃ l:Nat,l<=h.toNat/\(match vl with|some v=>Instr.sliceBound v h.toNat .slice3C|none=>Pure.pure 0:Sem Nat).run P w = .ok l w/\K l h.toNat m.toNat:=by
  cases lo with
  | none => cases vl with
    | none=>exact⟨0,cD _,rfl,hK⟩
    | some v=>exact hl.elim
  | some u => cases vl with
    | none=>exact hl.elim
    | some v =>
      have hl':VR g w u v:=hl;cases hl'<;>simp only[bound]at hK
      case int k i=>exact⟨i.toNat,ae,mG hK.1 hK.2.1,hK.2.2⟩
 refine⟨l,h.toNat,m.toNat,lb,ae,ae,?_,r2⟩;cases vl<;>simp_all[Instr.sliceBounds]
def DE {t e : TypeId} {el : El} {x hi mx : AV} {a vh vm : Value} {lo : Option AV} {vl : Option Value} (hR : Rel g w σ) (hu : P.underlying t = some (.slice e)) (he : iV P e = some el)
    (hx:VR g w x a) (hl:mH g w lo vl) (hh:VR g w hi vh) (hm:VR g w mx vm) (hK:wY σ el x lo hi mx K):bD P (Instr.sliceAt t a vl (some vh) (some vm)) g w σ K:=by
 obtain⟨fi,hi',_,hs,_⟩:=ie he
 have run:∀ (A:Option Addr) (len cap l h m:Nat),(Instr.sliceBounds true len cap vl (some vh) (some vm)).run P w = .ok (l,h,m) w ->
  (Instr.sliceAt t (.slice A len cap) vl (some vh) (some vm)).run P w = .ok (.slice (if m=l then A else A.map (·.add (l*el.sz))) (h-l) (m-l)) w:=fun A len cap l h m hb=>by
  simp only[Instr.sliceAt,Sem.run_bind,aU hu,Result.andThen_ok,Instr.slice,hb,c_ hi',hs,Sem.run_pure]
 have adp:∀ {g:aC} {w:World} {xs:List AV} {b off cap l h m:Nat},g.eS b->xs.length<=cap->h<=xs.length->l<h->h<=m->(∀ i,i<xs.length->(xs.getD i .undef).fits el=true) ->
  (∀ i c,i<xs.length->c<el.sz->(w.cell? ⟨b,off+(i*el.sz+c),none⟩).isSome=true)->(∀ i c,i<xs.length->c<el.sz->VR g w ((xs.getD i .undef).cell c) (dn w ⟨b,off+(i*el.sz+c),none⟩)) ->
  VR g w (.aH (h==m) el ((xs.drop l).take (h-l))) (.slice (some ⟨b,off+l*el.sz,none⟩) (h-l) (m-l)):=by
  intro g w xs b off cap l h m sV z_ hhl hlt hhm ft hc h';have hlen:((xs.drop l).take (h-l)).length=h-l:=by simp;omega
  have nh:∀ i,i<h-l->((xs.drop l).take (h-l)).getD i .undef=xs.getD (l+i) .undef:=fun i hi=>iA hi;have hoff:∀ i c,off+l*el.sz+(i*el.sz+c)=off+((l+i)*el.sz+c):=fun i c=>by rw[bJ];omega
  have:=VR.aH (g:=g) (w:=w) (h==m) el ((xs.drop l).take (h-l)) b (off+l*el.sz) (m-l) sV (fun e=>by rw[hlen];have:=beq_iff_eq.1 e;omega) (by rw[hlen];omega)
   (fun i hi=>by rw[hlen]at hi;rw[nh i hi];exact ft _ ae)
   (fun i c hi gQ=>by rw[hlen]at hi;rw[hoff];exact hc _ c ae gQ)
   (fun i c hi gQ=>by rw[hlen]at hi;rw[nh i hi,hoff];exact h' _ c ae gQ)
  rwa[hlen]at this
 unfold wY at hK;cases hx<;>simp only at hK
 case aP =>
  obtain⟨l,h,m,q1,q2,q3,q4,q5⟩:=qL (P:=P) (len:=0) (cap:=0) hl hh hm (aV _) hK;have:h=0/\l=0/\m=0:=ae;obtain⟨rfl,rfl,rfl⟩:=this;refine bD.pure hR (run none 0 0 0 0 0 q4) ?_ q5;simpa using VR.aP
 case iz f aS b cap hf =>
  obtain⟨rfl,hK⟩:=hK;obtain⟨l,h,m,q1,q2,q3,q4,q5⟩:=qL (P:=P) (len:=0) (cap:=cap) hl hh hm (cD _) hK;have q3:m<=0:=q3;have:h=0/\l=0/\m=0:=ae;obtain⟨rfl,rfl,rfl⟩:=this;refine bD.pure hR (run b 0 cap 0 0 0 q4) ?_ q5;simpa using VR.iz (g:=g) (w:=w) true aS b 0 aT
 case aH f aS xs b off cap sV hf z_ ft hc h =>
  obtain⟨rfl,hK⟩:=hK;obtain⟨l,h',m,q1,q2,q3,q4,q5⟩:=qL (P:=P) (len:=xs.length) (cap:=cap) hl hh hm z_ hK;refine bD.pure hR (run _ _ _ _ _ _ q4) ?_ q5;by_cases e:h'=l
  ·subst e;simpa using VR.iz (h'==m) _ _ (m-h') (fun e=>by have:=beq_iff_eq.1 e;omega)
  rw[aq ae];simp only[cB,add_plain];exact adp sV z_ ae ae q2 ft hc h
 case own aS l0 m0 o n h =>
  obtain⟨rfl,hK⟩:=hK;obtain⟨q1,q2,A,cap,rfl,q3⟩:=h;split at hK
  ·rename_i T bq xs hxs;obtain⟨rfl,rfl,rI,hK⟩:=hK;obtain⟨o1,o2,o3⟩:=hR.ok l0 _ hxs;obtain⟨q4,q5,q6⟩:=q3 o1.symm
   have hcap:xs.length<=g.cap l0:=by
    rcases o3 with⟨rfl,_,_⟩|⟨b,vs,b1,b2,b3,b4,b5⟩
    ·exact cD _
    exact b4
   obtain⟨l,h',m,p1,p2,p3,p4,p5⟩:=qL (P:=P) (len:=n) (cap:=cap) hl hh hm ae hK;split at p5
   ·rename_i e;subst e;have:h'=m:=ae;subst this;refine bD.pure hR (run _ _ _ _ _ _ p4) ?_ p5;simpa using VR.iz (g:=g) (w:=w) true bq A 0 aT
   rename_i e;obtain⟨rfl,p5⟩:=p5;rcases o3 with⟨rfl,_,_⟩|⟨b,vs,b1,b2,b3,b4,b5,_⟩
   ·simp at q4;omega
   have q7:=q6 ae;rw[b1]at q7;simp only[cB]at q7;subst q7;obtain⟨r1,r2⟩:=hR.freeze hxs rfl b1;refine⟨_,w,g.oE b,_,_,run _ _ _ _ _ _ p4,r1,r2,?_,p5⟩;rw[aq ae];simp only[cB,add_plain]
   have hlt:∀ i c,i<xs.length->c<bq.sz->g.off l0+(i*bq.sz+c)<vs.size:=fun i c hi hc=>by
    rw[b3];have:i*bq.sz+bq.sz<=g.cap l0*bq.sz:=by rw[<-dy];exact bw _ ae
    omega
   have hcell:∀ i c,i<xs.length->c<bq.sz->w.cell? ⟨b,g.off l0+(i*bq.sz+c),none⟩=some (vs.getD (g.off l0+i*bq.sz+c) Go.undef):=fun i c hi hc=>by
    rw[b2.cell (hlt i c hi hc),bP]
   have:=adp (g:=g.oE b) (w:=w) (xs:=xs) (b:=b) (off:=g.off l0) (cap:=xs.length) (l:=o+l) (h:=o+h') (m:=o+h') (.inr rfl) (aV _) ae ae (aV _) o2
    (fun i c hi hc=>by rw[hcell i c hi hc];rfl)
    (fun i c hi hc => by
      have e1:dn w ⟨b,g.off l0+(i*bq.sz+c),none⟩=vs.getD (g.off l0+i*bq.sz+c) Go.undef:=by unfold dn;rw[hcell i c hi hc];rfl
      rw[e1];exact(b5 i c hi hc).mono r2.mono)
   rw[show (o+h')-(o+l)=h'-l by omega]at this;rw[bP,<-bJ];simpa using this
  exact hK.elim
def TG {t e : TypeId} {el : El} {x hi mx : AV} {a vh vm : Value} {lo : Option AV} {vl : Option Value} (hR : Rel g w σ) (hu : P.underlying t = some (.slice e)) (he : iV P e = some el)
    (hx:VR g w x a) (hl:mH g w lo vl) (hh:VR g w hi vh) (hm:VR g w mx vm) (hK:rX el x lo hi mx fun v=>K v σ):bD P (Instr.sliceAt t a vl (some vh) (some vm)) g w σ K:=by
 unfold rX at hK;split at hK
 ·exact DE hR hu he hx hl hh hm hK
 ·exact DE hR hu he hx hl hh hm hK
 ·rename_i aS l0 m0 o n;obtain⟨rfl,hK⟩:=hK;obtain⟨fi,hi',_,hs,_⟩:=ie he;cases hx with
  | own aS l0 m0 o n v h =>
  obtain⟨q1,q2,A,cap,rfl,q3⟩:=h;obtain⟨l,h,m,p1,p2,p3,p4,p5⟩:=qL (P:=P) (len:=n) (cap:=cap) hl hh hm (cD _) hK;have:h=0/\l=0/\m=0:=ae;obtain⟨rfl,rfl,rfl⟩:=this;refine bD.pure hR (v:= .slice A 0 0) ?_ (.iz true _ A 0 aT) p5;simp only[Instr.sliceAt,Sem.run_bind,aU hu,Result.andThen_ok,Instr.slice,p4,c_ hi',hs,Sem.run_pure];simp
 exact hK.elim
def TH{t:TypeId}{name:String}{f:FuncId}{v:Value}(h:z7 P t name=some f)(n:Nat): (method (n+1) t v name).run P w = .ok (f,v) w:=by
 unfold z7 at h;split at h
 ·rename_i i te hi hu;split at h
  ·rename_i m hm;split at h
   ·rename_i f' hf;split at h
    ·rename_i hp;cases h;have LW:m.path.toList=[]:=by simpa using hp
     simp[method,run_typeInfo hi,hm,LW,hf,follow,receiverAt,aU hu,Place.get]
    ·cases h
   ·cases h
  ·cases h
 ·cases h
def VU {T xt : TypeId} {d : TypeDesc} {ok : Bool} {zero x : AV} {a : Value} (hR : Rel g w σ) (hu : P.underlying T = some d) (hd : ∀ l, d ≠ .interface l) (hz : jv P T = some zero) (hx : VR g w x a)
    (hK:zq T ok zero x fun v=>K v σ):bD P (Instr.typeAssert a xt T ok) g w σ K:=by
 obtain⟨z,hz1,Gv⟩:=rm hz w;unfold zq at hK;cases hx<;>(try exact False.elim hK)
 case eG =>
  obtain⟨rfl,hK⟩:=hK;refine bD.pure hR (v:= .tuple #[z,.bool false]) ?_ (tq (ok:=true) (Gv g w).1) hK;cases d<;>first|exact absurd rfl (hd _)|simp[Instr.typeAssert,aU hu,hz1]
 case iS t y v h =>
  simp only at hK;split at hK
  ·rename_i e;subst e;refine bD.pure hR (v:=if ok then .tuple #[v,.bool true]else v) ?_ (tq h) hK;cases d<;>first|exact absurd rfl (hd _)|simp[Instr.typeAssert,aU hu]
  rename_i e;obtain⟨rfl,hK⟩:=hK;refine bD.pure hR (v:= .tuple #[z,.bool false]) ?_ (tq (ok:=true) (Gv g w).1) hK;cases d<;>first|exact absurd rfl (hd _)|simp[Instr.typeAssert,aU hu,hz1,e]
def LX{x:AV}(h:x.fits ⟨false,1⟩=true): x.cell 0=x/\x.scalar=true:=by
 cases x<;>first|exact⟨rfl,rfl⟩|(simp[AV.fits]at h;done)
def YH{xs:List AV}{n:Nat}(hn:xs.length=n)(ft:∀ i,i<xs.length->(xs.getD i .undef).fits ⟨false,1⟩=true): (AV.agg xs).fits ⟨true,n⟩=true:=by
 simp only[AV.fits,aD,beq_iff_eq,bt];refine⟨⟨by trivial,hn⟩,fun x hx=>?_⟩;obtain⟨i,hi,rfl⟩:=hU.1 hx;have:=ft i hi;have h2:(xs.getD i .undef)=xs[i]:=by simp[hi]
 rw[h2]at this;exact(LX this).2
def VW{t e:TypeId}{n:Nat}{x:AV}{a:Value}(hR:Rel g w σ)(hu:P.underlying t=some (.array n e))(hx:VR g w x a)(hK:Bf σ n x K): bD P (Instr.arrayAt t a) g w σ K:=by
 have run:∀ (A:Option Addr) (len cap:Nat),n<=len->(Instr.arrayAt t (.slice A len cap)).run P w = .ok (.pointer A) w:=fun A len cap h=>by
  have h1:¬ (len<n):=ae;simp[Instr.arrayAt,aU hu,h1]
 have cN:∀ {g:aC} {w:World} {zs:List AV} {b o:Nat},zs.length=n->g.eS b->(∀ i,i<zs.length->(zs.getD i .undef).fits ⟨false,1⟩=true)->(∀ i,i<n->(w.cell? ⟨b,o+i,none⟩).isSome=true)->(∀ i,i<n->VR g w ((zs.getD i .undef).cell 0) (dn w ⟨b,o+i,none⟩)) ->
  VR g w (.cN ⟨true,n⟩ (.agg zs) 0) (.pointer (some ⟨b,o,none⟩)):=fun {g w zs b o} hl hi ft hc h=>by
  have:=VR.cN (g:=g) (w:=w) ⟨true,n⟩ (.agg zs) 0 b o hi (YH hl ft) hc (fun c w6=>by
   have w6:c<n:=w6;have h1:=h c w6;rw[(LX (ft c ae)).1]at h1;exact h1)
  exact this
 unfold Bf at hK;cases hx<;>(try exact False.elim hK)
 case iz f el b cap hf =>
  obtain⟨_,h1,h2,_⟩:=hK;simp at h2;omega
 case aH f el xs b off cap sV hf z_ ft hc h =>
  obtain⟨rfl,h1,h2,hK⟩:=hK;refine bD.pure hR (run _ _ _ h2) (cN (by simp;omega) sV (fun i hi=>?_) (fun i hi=>?_) (fun i hi=>?_)) hK
  ·simp only[dH]at hi;have:=ft i ae;simpa[show i<n by omega]using this
  ·have:=hc i 0 ae aT;simpa using this
  have:=h i 0 ae aT;simpa[hi]using this
 case own el l m o k h =>
  obtain⟨rfl,hK⟩:=hK;obtain⟨q1,q2,A,cap,rfl,q3⟩:=h;split at hK
  ·rename_i T bq xs hxs;obtain⟨rfl,rfl,h1,h2,h3,hK⟩:=hK;obtain⟨o1,o2,o3⟩:=hR.ok l _ hxs;obtain⟨q4,q5,q6⟩:=q3 o1.symm;rcases o3 with⟨rfl,_,_⟩|⟨b,vs,b1,b2,b3,b4,b5,_⟩
   ·simp at h1;omega
   have q7:=q6 ae;rw[b1]at q7;simp only[cB,Nat.mul_one]at q7;subst q7;obtain⟨r1,r2⟩:=hR.freeze hxs rfl b1;have hlt:∀ i,i<xs.length->g.off l+i<vs.size:=fun i hi=>by simp only[Nat.mul_one]at b3;omega
   have hcell:∀ i,i<n->w.cell? ⟨b,g.off l+o+i,none⟩=some (vs.getD (g.off l+(o+i)) Go.undef):=fun i hi=>by
    rw[bP,b2.cell (hlt (o+i) ae)]
   refine⟨_,w,g.oE b,_,_,run _ _ _ h3,r1,r2,cN (by simp;omega) (.inr rfl) (fun i hi=>?_) (fun i hi=>?_) (fun i hi=>?_),hK⟩
   ·simp only[dH,e8]at hi;have:=o2 (o+i) ae;simpa[show i<n by omega]using this
   ·rw[hcell i hi];rfl
   have:=(b5 (o+i) 0 ae aT).mono r2.mono;have e1:dn w ⟨b,g.off l+o+i,none⟩=vs.getD (g.off l+(o+i)) Go.undef:=by unfold dn;rw[hcell i hi];rfl
   rw[e1];simpa[hi]using this
  exact hK.elim
def VX {ats : Array TypeId} {r t e : TypeId} {el : El} {z x : AV} {a : Value} (hR : Rel g w σ) (h0 : ats[0]? = some t) (hu : P.underlying t = some (.slice e)) (he : iV P e = some el) (hz : jv P e = some z)
    (hx:VR g w x a) (hK:Bg σ el z x fun σ'=>K (.bg []) σ'):bD P (Builtin.clear_ ats r #[a]) g w σ K:=by
 obtain⟨v,z1,z2,z3⟩:=ug he hz;have unit:∀ (g:aC) (w:World),VR g w (.bg []) (.tuple #[]):=fun g w=> .bg [] #[] rfl (fun i hi=>absurd hi (cJ _))
 have empty:∀ (A:Option Addr) (cap:Nat),K (.bg []) σ->bD P (Builtin.clear_ ats r #[.slice A 0 cap]) g w σ K:=fun A cap hK=>by
  refine bD.pure hR (v:= .tuple #[]) ?_ (unit _ _) hK;cases A<;>simp[Builtin.clear_,h0,aU hu]
 unfold Bg at hK;cases hx<;>(try exact False.elim hK)
 case aP=>exact empty none 0 hK
 case iz f aS b cap hf=>exact empty b cap hK
 case aH f aS xs b off cap sV hf z_ ft hc h =>
  cases xs with
  | nil=>exact empty _ cap hK
  | cons y ys=>exact hK.elim
 case own aS l m o n h =>
  obtain⟨rfl,hfz,hK⟩:=hK;obtain⟨q1,q2,A,cap,rfl,q3⟩:=h;split at hK
  ·rename_i T bq xs hxs;obtain⟨rfl,rfl,k6,hK⟩:=hK;rcases Nat.eq_zero_or_pos n with hn|hn
   ·subst hn;simp only[List.replicate_zero,dm,Ho hxs]at hK;exact empty A cap hK
   obtain⟨o1,o2,o3⟩:=hR.ok l _ hxs;obtain⟨q4,q5,q6⟩:=q3 o1.symm;rcases o3 with⟨rfl,_,_⟩|⟨b',vs,b1,b2,b3,b4,b5,b6⟩
   ·simp at q4;omega
   have q7:=q6 ae;rw[b1]at q7;simp only[cB]at q7;subst q7
   have hrow:g.off l+(o+n)*bq.sz<=vs.size:=by
    have:(o+n)*bq.sz<=g.cap l*bq.sz:=bw _ ae;omega
   obtain⟨us,vG⟩:∃ us:Array Value,us=(Array.range (n*bq.sz)).map (v.cells[· % v.cells.size]!):=⟨_,rfl⟩;have k4:us.size=n*bq.sz:=by rw[vG];simp
   have k5:iB g w bq (List.replicate n z) us:=by rw[vG];exact wg n (z2 g w) hfz z3
   have ht:∀ i,i<(List.replicate n z).length->((List.replicate n z).getD i .undef).fits bq=true:=fun i hi=>by
    simp only[cz]at hi;simpa[hi]using hfz
   have hlen:(List.replicate n z).length=n:=cz;have Oe:Builtin.zeroCells v.cells n=us:=by rw[vG];simp[Builtin.zeroCells,z3]
   have hroom:g.off l+o*bq.sz+us.size<=vs.size:=by rw[bJ]at hrow;omega
   have hrun:=nI (P:=P) (b:=b') (o:=g.off l+o*bq.sz) us.toList w vs 0 b2.1 (by simpa using hroom) (lJ k5 (by rw[k4,hlen]) ht);obtain⟨f1,f2,f3,f4,f5⟩:=jt w b' (g.off l+o*bq.sz+0) us.toList
   obtain⟨r1,r2⟩:=hR.update (o':= .bW T bq (dm xs o (List.replicate n z))) hxs rfl b1 f1 f2 f3 f4 f5
    (fun hm => ⟨by rw [fq]; exact o1, fun i hi => by
      rw[fq]at hi;rw[mg _ _ _ ae];split
      ·rename_i hh;exact ht _ ae
      ·exact o2 i hi,
      .inr ⟨b',_,b1,b2.setRow _ _,by rw[size_putRow];exact b3,by rw[fq];exact b4,fun i c hi hc=>by
       rw[fq]at hi;rw[mg _ _ _ ae,jd _ _ _ (by simpa using hroom)];simp only[dB,dP,hlen,k4];by_cases h1:o<=i/\i<o+n
       ·obtain⟨j,rfl⟩:∃ j,i=o+j:=⟨i-o,ae⟩;have hj:j<n:=ae;have h2:=mI hj hc;rw[aB h1,aB (by rw[bJ];omega),show g.off l+(o+j)*bq.sz+c-(g.off l+o*bq.sz)=j*bq.sz+c by rw[bJ];omega,show o+j-o=j by omega];have:=(k5 j c ae hc).mono hm;simpa using this
       ·have hne : ¬ (g.off l + o * bq.sz <= g.off l + i * bq.sz + c /\ g.off l + i * bq.sz + c < g.off l + o * bq.sz + n * bq.sz) := by
         rintro⟨z1,z2⟩;rcases Nat.lt_or_ge i o with h2|h2
         ·have:(i+1)*bq.sz<=o*bq.sz:=bw _ h2;rw[dy]at this;omega
         have:(o+n)*bq.sz<=i*bq.sz:=bw _ ae;rw[bJ]at this;omega
        rw[aq h1,aq hne];exact(b5 i c hi hc).mono hm,by
       cases T with
       | none=>trivial
       | some T=>rw[size_putRow];exact⟨(pH _ _ _ _ _).trans b6.1,b6.2⟩⟩⟩)
   refine⟨.tuple #[],_,g,.bg [],_,?_,r1,r2,unit _ _,hK⟩;have Gy:n≠0:=ae;cases n with
   | zero=>exact absurd rfl Gy
   | succ n=>simp[Builtin.clear_,h0,aU hu,z1,Oe,hrun]
  exact hK.elim
end
def yF(g:aC)(w:World)(σ : ai)(a:Act)(dst:Option Tmp)(K:AV->ai->Prop)(a':Act)(w':World): Prop :=
 ∃ v g' av σ',a'=a.put dst v/\Rel g' w' σ'/\ep σ g w σ' g' w'/\VR g' w' av v/\K av σ'
def CB(g:aC)(w:World)(σ : ai)(a:Act)(Kp:AV->ai->Prop)(ex:Exit)(a':Act)(w':World): Prop :=
 a'=a/\ ∃ v g' av σ',ex = .panic [{ v,recovered:=false }]/\Rel g' w' σ'/\ep σ g w σ' g' w'/\VR g' w' av v/\Kp av σ'
abbrev WF(ro:Option Nat): Fence:= { Fence.wide with round:=ro }
def Ke(ro:Option Nat)(n:Nat): (WF ro).room n:=fun _ h=>by simp[WF,Fence.wide]at h
def FC{ro:Option Nat}{n:Nat}{P:Program}{f:FuncId}{args:Array Value}{w:World}{R:Ending->World->Prop}: CallsIn (WF ro) n P f args w R↔Calls P f args w R:=callsIn_wide (n:=n)
def uh(o:Oper): Prop:= ∀ c,o.op≠ .defer c
section
variable {P:Program} {g:aC} {w:World} {σ : ai} {K Kp:AV->ai->Prop} {ro:Option Nat} {wn:Nat}
def ni{o:Oper}{a:Act}{next:Act->World->Prop}{Q:Exit->Act->World->Prop}(ff:uh o)(h:o.uponIn (WF ro) wn P a next Q ((execOp a.eval o).run P w)): o.wpIn (WF ro) wn P a w next Q:=by
 refine⟨fun _ _=>trivial,?_⟩;rw[Oper.semAt_eq _ _ _ ff];exact h
def nj{o:Oper}{a:Act}{v:Value}{w':World}{next:Act->World->Prop}{Q:Exit->Act->World->Prop}(ff:uh o)(h:(execOp a.eval o).run P w = .ok (.value v) w')(hn:next (a.put o.dst v) w'): o.wpIn (WF ro) wn P a w next Q:=by
 refine ni ff ?_;rw[h];exact hn
def da{o:Oper}{a:Act}{s:Sem Value}{Q:Exit->Act->World->Prop}(ff:uh o)(h:bD P s g w σ K)(hs:execOp a.eval o=(do pure (.value (← s)):Sem Next)): o.wpIn (WF ro) wn P a w (yF g w σ a o.dst K) Q:=by
 obtain⟨v,w',g',av,σ',h1,h2,h3,h4,h5⟩:=h;refine nj ff (v:=v) (w':=w') ?_ ⟨v,g',av,σ',rfl,h2,h3,h4,h5⟩;rw[hs];simp[h1]
def uK{o:Oper}{a:Act}{v:Value}{av:AV}{Q:Exit->Act->World->Prop}(ff:uh o)(hR:Rel g w σ)(hs:(execOp a.eval o).run P w = .ok (.value v) w)(hv:VR g w av v)(hk:K av σ): o.wpIn (WF ro) wn P a w (yF g w σ a o.dst K) Q :=
 nj ff hs ⟨v,g,av,σ,rfl,hR,.refl _ _ _,hv,hk⟩
def l5{nt:Nat}{x:Option Operand}{ax:Option AX}{e:Env}{a:Act}(h:RT nt x=some ax)(hE:fm nt g w e a.tmps): mH g w (ax.map (AX.ev e)) (x.map a.eval):=by
 cases x with
 | none=>cases h;trivial
 | some x =>
   simp only[RT,aW]at h;obtain⟨b,h1,rfl⟩:=h;exact bL h1 hE
def rq {nt : Nat} {xs : Array Operand} {az : List AX} {e : Env} {a : Act} (h : Cw nt xs.toList = some az) (hE : fm nt g w e a.tmps) :
    (az.map (AX.ev e)).length=(xs.map a.eval).size/\ ∀ i,i<(az.map (AX.ev e)).length->VR g w ((az.map (AX.ev e)).getD i .undef) ((xs.map a.eval).getD i Go.undef):=by
 obtain⟨h1,h2⟩:=abx h hE;refine⟨by simp[h1],fun i hi=>?_⟩;have:=h2 i (by simpa using hi);simpa using this
def qb {az bs : List AV} {us vs : Array Value} (h1 : az.length = us.size) (h2 : ∀ i, i < az.length -> VR g w (az.getD i .undef) (us.getD i Go.undef)) (h3 : bs.length = vs.size) (h4 : ∀ i, i < bs.length -> VR g w (bs.getD i .undef) (vs.getD i Go.undef)) :
    (az++bs).length=(us++vs).size/\ ∀ i,i<(az++bs).length->VR g w ((az++bs).getD i .undef) ((us++vs).getD i Go.undef):=by
 refine⟨by simp[h1,h3],fun i hi=>?_⟩;simp only[aG]at hi;by_cases h:i<az.length
 ·have:=h2 i h;have h5:i<us.size:=ae;simpa[aO h,bT h5]using this
 obtain⟨j,rfl⟩:∃ j,i=az.length+j:=⟨i-az.length,ae⟩;have:=h4 j ae;rw[h1];have e1:(az++bs).getD (us.size+j) .undef=bs.getD j .undef:=by rw[<-h1];simp[bx]
 have e2:(us++vs).getD (us.size+j) Go.undef=vs.getD j Go.undef:=by
  rw[bQ,Array.getElem?_append_right ae];simp
 rw[e1,e2];exact this
def VY{f:AX}{args:List AX}{e:Env}{K Kp:AV->ai->Prop}(h:(bf.qG f args).run P e σ K Kp): (bf.call false f args).run P e σ K Kp:=by
 simp only[bf.run]at *;split at h
 ·rename_i n hf;unfold Ba at h;split at h
  ·rename_i a r ha;obtain⟨l,ob,mA,r,_,_,_,h4,h5⟩:=h;simp only[hf,aN,if_false,gj,cI];exact h4.mono fun o s ⟨e1,e2⟩=>by subst e1;subst e2;exact h5
  exact h.elim
 exact h.elim
def TI{m q:Bool}{f:AX}{args:List AX}{e:Env}{K Kp:AV->ai->Prop}(h:(Vx m q f args).run P e σ K Kp): ∃ q,(bf.call q f args).run P e σ K Kp:=by
 cases m
 ·exact⟨q,h⟩
 exact⟨false,VY h⟩
def YI{l:List (Nat × El)}{m q:Bool}{f:AX}{args:List AX}{e:Env}{K Kp:AV->ai->Prop}(h:(Yy l m q f args).run P e σ K Kp): ∃ q,(bf.call q f args).run P e σ K Kp:=by
 unfold Yy at h;split at h
 ·rename_i p l' n;refine⟨false,?_⟩
  have hk:∃ r σ2,cV P n ((args.map (AX.ev e))) σ (fun o σ'=>o = .ret r/\σ' = σ2)/\K r σ2:=by
   replace h:ef.run P (.cw n args.length _) (args.map (AX.ev e)) σ K Kp:=h
   generalize hz:args.map (AX.ev e)=zs at h;cases zs with
   | nil=>exact h.elim
   | cons z zs =>
     obtain⟨r,s2,h1,_,h3⟩:=h;rw[<-hz,cM aT,hz]at h1;exact⟨r,s2,h1,h3⟩
  obtain⟨r,s2,h1,h3⟩:=hk;simp only[bf.run,AX.ev,aN,if_false,gj,cI];exact h1.mono fun o s ⟨e1,e2⟩=>by subst e1;subst e2;exact h3
 exact TI h
def YJ{p:Bool}{l:List (Nat × El)}{m q:Bool}{f:AX}{args:List AX}{e:Env}{K Kp:AV->ai->Prop}(h:(Yz p l m q f args).run P e σ K Kp): ∃ q,(bf.call q f args).run P e σ K Kp:=by
 unfold Yz at h;split at h
 ·rename_i n;refine⟨false,?_⟩;obtain⟨o,h1,h2⟩:∃ o,(∀ s,cV P n (args.map (AX.ev e)) s fun o' s'=>o'=o/\s'=s)/\pcK (fun r=>K r σ) (fun v=> ∀ s,Kp v s) o:=h;simp only[bf.run,AX.ev,aN,if_false,gj,cI];refine(h1 σ).mono fun o' s ⟨e1,e2⟩=>?_;subst e1;subst e2;cases o' with
  | ret r=>exact h2
  | panic v=>exact h2 _
 exact YI h
def Kg {o : Oper} {a : Act} {f : FuncId} {vs : Array Value} {args : List AV} (ff : uh o) (hex : (execOp a.eval o).run P w = .ok (.enter f vs) w) (hR : Rel g w σ) (hl : args.length = vs.size)
    (h : ∀ i, i < args.length -> VR g w (args.getD i .undef) (vs.getD i Go.undef)) (hc : cV P f args σ fun
      | .ret r,σ'=>K r σ'
      | .panic r,σ'=>Kp r σ'):o.wpIn (WF ro) wn P a w (yF g w σ a o.dst K) (CB g w σ a Kp):=by
 refine ni ff ?_;rw[hex];refine⟨fun h=>by simp[WF,Fence.wide]at h,FC.2 ((hc.2 g w vs hR hl h).mono ?_)⟩;rintro e w' ⟨out,g',σ',h1,h2,h3,h4⟩;cases out with
 | ret r =>
   cases e with
   | returned v=>exact⟨v,g',r,σ',rfl,h1,h2,h3,h4⟩
   | panicked c=>exact h3.elim
   | outgrown=>exact h3.elim
 | panic r =>
   cases e with
   | returned v=>exact h3.elim
   | panicked c=>obtain⟨v,rfl,h3⟩:=h3;exact⟨rfl,v,g',r,σ',rfl,h1,h2,h3,h4⟩
   | outgrown=>exact h3.elim
def YL {o : Oper} {a : Act} {l b : Nat} {vs : Array Value} {args : List AV} (ff : uh o) (hex : (execOp a.eval o).run P w = (Instr.yield b vs).run P w) (hR : Rel g w σ) (hb : g.ver l = 0 -> g.base l = some b) (hl : args.length = vs.size)
    (h : ∀ i, i < args.length -> VR g w (args.getD i .undef) (vs.getD i Go.undef)) (hc : oF P l args σ fun
      | .ret r,σ'=>K r σ'
      | .panic r,σ'=>Kp r σ'):o.wpIn (WF ro) wn P a w (yF g w σ a o.dst K) (CB g w σ a Kp):=by
 refine ni ff ?_;obtain⟨⟨nt,e,ps,ca,cb,st,pe,ho⟩,hc⟩:=hc;have mz:=(hR.ok l _ ho).1;obtain⟨fn,tmps,ca,cb,r1,r2⟩:=hc g w vs b hR (hb mz) hl h;rw[hex,r1];refine⟨fun h=>by simp[WF,Fence.wide]at h,?_⟩;have r3:RoundIn (WF ro) (wn-1) P b fn tmps ca cb w _:=⟨trivial,fun c cs _=>r2.2 c cs (room_wide _)⟩;refine r3.mono ?_;rintro e w' ⟨out,g',σ',h1,h2,h3,h4⟩;cases out with
 | ret r =>
   cases e with
   | returned v=>exact⟨v,g',r,σ',rfl,h1,h2,h3,h4⟩
   | panicked c=>exact h3.elim
   | outgrown=>exact h3.elim
 | panic r =>
   cases e with
   | returned v=>exact h3.elim
   | panicked c=>obtain⟨v,rfl,h3⟩:=h3;exact⟨rfl,v,g',r,σ',rfl,h1,h2,h3,h4⟩
   | outgrown=>exact h3.elim
def FD{d:TypeDesc}{kd:Option IntKind}(h:z8 d=some kd): tj kd d=true:=by
 cases d<;>simp[z8]at h<;>subst h<;>simp[tj]
def LY {o : Oper} {a : Act} {t key elem : TypeId} {d : TypeDesc} {kd : Option IntKind} {x k y : AV} {m v u : Value} (ff : uh o) (hR : Rel g w σ) (ht : P.underlying t = some (.map key elem)) (hkey : P.underlying key = some d) (hd : tj kd d = true)
    (hx:VR g w x m) (hv:VR g w k v) (hu:VR g w y u) (hex:execOp a.eval o=(do Instr.mapUpdate t m v u;Pure.pure .skip:Sem Next))
    (hK:ef.run P (.zZ kd) [x,k,y] σ K Kp):o.wpIn (WF ro) wn P a w (yF g w σ a o.dst K) (CB g w σ a Kp):=by
 unfold ef.run at hK;split at hK<;>(try (rename_i h1 h2;cases h1;done))<;>(try (rename_i h1;cases h1;done))<;>(try exact hK.elim);rename_i l k' v' h1 h2;cases h1;cases h2;obtain⟨hk,hK⟩:=hK;split at hK
 ·rename_i es vH;split at hK
  ·rename_i es' hs;obtain⟨w',r1,r2,r3⟩:=Od hR ht hkey hd hx hv hu hk vH hs;refine ni ff ?_;have:(execOp a.eval o).run P w = .ok .skip w':=by rw[hex];simp[r1]
   rw[this];exact⟨.tuple #[],g,.bg [],_,rfl,r2,r3,.bg [] #[] rfl (fun i hi=>absurd hi (cJ _)),hK⟩
  exact hK.elim
 exact hK.elim
def abD {o : Oper} {a : Act} {t : TypeId} {x s y : AV} {m v u : Value} (ff : uh o) (hR : Rel g w σ)
    (hx:VR g w x m) (hv:VR g w s v) (hu:VR g w y u) (hex:execOp a.eval o=(do Instr.entryStore t m v u;Pure.pure .skip:Sem Next))
    (hK:ef.run P .N0 [x,s,y] σ K Kp):o.wpIn (WF ro) wn P a w (yF g w σ a o.dst K) (CB g w σ a Kp):=by
 obtain⟨w',σ',r1,r2,r3,r4⟩:=TA (P:=P) (t:=t) hR hx hv hu (show uc σ x s y fun σ'=>K (.bg []) σ' from hK);refine ni ff ?_;have:(execOp a.eval o).run P w = .ok .skip w':=by rw[hex];simp[r1]
 rw[this];exact⟨.tuple #[],g,.bg [],_,rfl,r2,r3,.bg [] #[] rfl (fun i hi=>absurd hi (cJ _)),r4⟩
def r9{f:FuncId}(h:Has P f)(args:Array Value)(w:World): (callFunc f args).run P w = .ok (.enter f args) w:=by
 obtain⟨fn,h1,h2,h3⟩:=h;have h4:fn.body.isNone=false:=by cases hb:fn.body<;>simp_all
 simp only[callFunc,Sem.run_bind,run_program,Result.andThen_ok,h1,h3,h4,aN,if_false,Sem.run_pure]
def adq {o : Oper} {a : Act} {x : AV} {r : Value} {az : List AV} {vs : Array Value} {name : String} (ff : uh o) (hR : Rel g w σ) (hx : VR g w x r)
    (ha:az.length=vs.size/\ ∀ i,i<az.length->VR g w (az.getD i .undef) (vs.getD i Go.undef)) (hex:execOp a.eval o=callMethod r name vs)
    (hK:ef.run P (.inv name) (x::az) σ K Kp):o.wpIn (WF ro) wn P a w (yF g w σ a o.dst K) (CB g w σ a Kp):=by
 unfold ef.run at hK;split at hK<;>(try (rename_i h1 h2;cases h1;done))<;>(try (rename_i h1;cases h1;done))<;>(try exact hK.elim);rename_i nm t v l h1 h2;cases h1;cases h2;cases hx;rename_i v' hv;split at hK
 ·rename_i f hf
  have akl:(execOp a.eval o).run P w = .ok (.enter f (#[v']++vs)) w:=by
   rw[hex];have:=TH (w:=w) (v:=v') hf (P.types.size+99);have e1:Made.depth=99+1:=rfl;have e0:(program).run P w = .ok P w:=rfl;simp only[callMethod,Sem.run_bind,e0,Result.andThen_ok,e1,<-Nat.add_assoc,this,r9 hK.1]
  obtain⟨a1,a2⟩:=ha
  obtain⟨c1,c2⟩:=qb (g:=g) (w:=w) (az:=[v]) (us:= #[v']) rfl (fun i hi=>by
   have:i=0:=by simpa using hi
   subst this;simpa using hv) a1 a2
  exact Kg ff akl hR c1 c2 hK
 exact hK.elim
def Og {nt : Nat} {h : Hints} {dr : Bool} {o : Oper} {ao : bf} {e : Env} {a : Act} (hc : pL P nt h dr o = some ao) (hR : Rel g w σ) (hE : fm nt g w e a.tmps) (hK : ao.run P e σ K Kp) :
    o.wpIn (WF ro) wn P a w (yF g w σ a o.dst K) (CB g w σ a Kp):=by
 have ff:uh o:=fun c hop=>by simp[pL,hop]at hc
 unfold pL at hc;cases hop:o.op<;>simp only[hop]at hc<;>(try (cases hc;done))
 case move x =>
  simp only[aW]at hc;obtain⟨ax,h1,rfl⟩:=hc;by_cases hb:(!dr && Du o.dst h.Hf)=true
  ·rw[aB hb]at hK;exact da ff (VT (P:=P) hR (bL h1 hE) hK) (by simp[execOp,hop])
  rw[aq hb]at hK;exact uK ff hR (by simp[execOp,hop]) (bL h1 hE) hK
 case assign x =>
  have mv:∀ ax,cX nt x=some ax->bf.run P (.mv ax) e σ K Kp->o.wpIn (WF ro) wn P a w (yF g w σ a o.dst K) (CB g w σ a Kp):=fun ax h1 hK =>
   uK ff hR (by simp[execOp,hop]) (bL h1 hE) hK
  split at hc
  ·rename_i el hel;split at hc
   ·rename_i hnil;cases hc
    have hx:a.eval x = .slice none 0 0:=by
     cases x with
     | const v =>
       cases v with
       | slice p l c =>
         cases p with
         | none=>simp[og]at hnil;obtain⟨rfl,rfl⟩:=hnil;rfl
         | some p=>simp[og]at hnil
       | _=>simp[og]at hnil
     | _=>simp[og]at hnil
    obtain⟨r1,r2⟩:=hR.nw el;refine nj ff (v:= .slice none 0 0) (w':=w) (by simp[execOp,hop,hx]) ⟨_,_,_,_,rfl,r1,r2,.own _ _ _ _ _ _ ⟨by simp[aC.push,hR.len],cD _,_,_,rfl,fun _=>⟨ae,by simp[aC.push,hR.len],fun h=>by simp[aC.push,hR.len]at h⟩⟩,hK⟩
   simp only[aW]at hc;obtain⟨ax,h1,rfl⟩:=hc;exact mv ax h1 hK
  simp only[aW]at hc;obtain⟨ax,h1,rfl⟩:=hc;exact mv ax h1 hK
 case pick c x y =>
  split at hc
  ·rename_i ac ax ay h1 h2 h3;cases hc;have hv:=bL h1 hE;simp only[bf.run]at hK;generalize AX.ev e ac=z at hv hK;generalize fX:a.eval c=cv at hv;cases hv<;>simp only at hK;rename_i t;refine uK ff (v:=if t then a.eval x else a.eval y) hR (by simp[execOp,hop,fX,asBool]) ?_ hK;cases t
   ·exact bL h3 hE
   exact bL h2 hE
  ·cases hc
 case alloc t =>
  split at hc
  ·rename_i z hz;split at hc
   ·simp only[Option.some.injEq]at hc;split at hc
    ·cases hc;simp only[bf.run]at hK;split at hK
     ·split at hK
      ·rename_i hn;exact da ff (Ni (yy _ _) hR hn hz hK) (by simp[execOp,hop])
      exact hK.elim
     exact hK.elim
    ·cases hc;exact da ff (QC (yy _ _) hR hz hK) (by simp[execOp,hop])
   ·cases hc
  ·cases hc
 case box t x =>
  simp only[aW]at hc;obtain⟨ax,h1,h2⟩:=hc;split at h2<;>subst h2<;>simp only[bf.run]at hK
  ·exact da ff (Ti (t:=t) hR (bL h1 hE) hK.1 hK.2) (by simp[execOp,hop])
  exact da ff (Vy (t:=t) hR (bL h1 hE) hK.1 hK.2) (by simp[execOp,hop])
 case build t parts =>
  split at hc
  ·rename_i z fs hz hu;split at hc
   ·rename_i hh;simp only[aD]at hh;simp only[aW]at hc;obtain⟨ps,h1,rfl⟩:=hc;exact da ff (DA hR hE hz hh.2 hu hh.1 h1 hK) (by simp[execOp,hop])
   ·cases hc
  ·rename_i z n el hz hu;split at hc
   ·rename_i hh;simp only[aD,eJ]at hh;obtain⟨⟨fi,hi⟩,_⟩:=hh;simp only[aW]at hc;obtain⟨ps,h1,rfl⟩:=hc;exact da ff (F9 hR hE hz hu hi h1 hK) (by simp[execOp,hop])
   ·cases hc
  ·cases hc
 case buildSlice t n parts =>
  split at hc
  ·rename_i el hu;split at hc
   ·rename_i aS z he hz;split at hc
    ·rename_i hh;simp only[aD,au]at hh;simp only[aW]at hc;obtain⟨ps,h1,rfl⟩:=hc;exact da ff (N_ hR hE hu he hz hh.1 hh.2 h1 hK) (by simp[execOp,hop])
    ·cases hc
   ·cases hc
  ·cases hc
 case load t x =>
  split at hc
  ·rename_i ag i ax hA hi h1;split at hc
   ·rename_i hh;cases hc;exact da ff (Tk hR hA hi (fun e=>by simpa[e]using hh) (bL h1 hE) hK) (by simp[execOp,hop])
   ·cases hc
  ·cases hc
 case store t x y =>
  split at hc
  ·rename_i i ax ay hi h1 h2;cases hc;obtain⟨w',g',σ',r1,r2,r3,r4⟩:=QE (P:=P) hR hi (bL h1 hE) (bL h2 hE) hK;refine ni ff ?_;have:(execOp a.eval o).run P w = .ok .skip w':=by simp[execOp,hop,r1]
   rw[this];exact⟨_,g',.bg [],σ',rfl,r2,r3,.bg [] #[] rfl (fun i hi=>absurd hi (cJ _)),r4⟩
  ·cases hc
 case nilCheck x =>
  simp only[aW]at hc;obtain⟨ax,h1,rfl⟩:=hc;obtain⟨v,w',g',av,σ',r1,r2,r3,r4,r5⟩:=QH (P:=P) (K:=K) hop rfl hR (bL h1 hE) hK;exact nj ff r1 ⟨v,g',av,σ',rfl,r2,r3,r4,r5⟩
 case binOp op t x y yt =>
  have hs:∀ {K:AV->ai->Prop},bD P (do eqGuard op t x y (a.eval x) (a.eval y);binOp op t (a.eval x) (a.eval y)) g w σ K->o.wpIn (WF ro) wn P a w (yF g w σ a o.dst K) (CB g w σ a Kp):=fun hh =>
   da ff hh (by simp[execOp,hop])
  split at hc
  ·rename_i ax ay h1 h2;have v1:=bL h1 hE;have v2:=bL h2 hE;split at hc
   ·cases hc;exact hs (IA hR v1 v2 hK)
   ·cases hc;exact hs (IA hR v1 v2 hK)
   ·rename_i te hu;split at hc
    ·rename_i hn
     have hy:a.eval y = .slice none 0 0:=by
      unfold og at hn;split at hn
      ·rename_i l c;simp only[aD,beq_iff_eq]at hn;rw[hn.1,hn.2];rfl
      ·cases hn
     rw[hy]at hs;split at hc
     ·split at hc
      ·cases hc;exact hs (II (op:= .eql) (.inl rfl) hR hu v1 hK)
      ·cases hc;exact hs (Bp (op:= .eql) (.inl rfl) hR hu v1 hK)
     ·split at hc
      ·cases hc;exact hs (II (op:= .neq) (.inr rfl) hR hu v1 hK)
      ·cases hc;exact hs (Bp (op:= .neq) (.inr rfl) hR hu v1 hK)
     ·cases hc
    ·cases hc
   ·rename_i d _ _ _ hu;split at hc
    ·rename_i k hk;split at hc
     ·split at hc
      ·rename_i te _ hpt;split at hc
       ·rename_i i _ hi;cases hc;exact hs (LQ (op:= .eql) (.inl ⟨rfl,rfl⟩) hR hu hi v1 v2 hK)
       ·rename_i i _ hi;cases hc;exact hs (LQ (op:= .neq) (.inr ⟨rfl,rfl⟩) hR hu hi v1 v2 hK)
       ·cases hc
      ·cases hc
     split at hc
     ·rename_i hn;simp only[dD]at hn;split at hc
      ·cases hc;refine hs (Gu (op:= .eql) (.inl rfl) hR hu hk hn v1 v2 ?_);simp only[bf.run]at hK;generalize n8 k (AX.ev e ax) (AX.ev e ay)=r at hK |-;cases r<;>exact hK
      ·cases hc;refine hs (Gu (op:= .neq) (.inr rfl) hR hu hk hn v1 v2 ?_);simp only[bf.run]at hK;generalize n8 k (AX.ev e ax) (AX.ev e ay)=r at hK |-;cases r<;>exact hK
      ·cases hc
     ·cases hc
    split at hc
    ·rename_i ks ag i hf hA hi;split at hc
     ·rename_i hh;simp only[aD,beq_iff_eq,dD,dR]at hh
      have hg:ag=true->P.eqGuardType P.depth t=false:=fun e=>by
       rcases hh.2 with h|h
       ·rw[e]at h;cases h
       exact h
      split at hc
      ·cases hc;exact hs (LK (op:= .eql) (.inl rfl) hR hf hA hi hh.1 hg v1 v2 hK)
      ·cases hc;exact hs (LK (op:= .neq) (.inr rfl) hR hf hA hi hh.1 hg v1 v2 hK)
      ·cases hc
     ·cases hc
    ·cases hc
   ·cases hc
  ·cases hc
 case unOp op t x =>
  simp only[aW]at hc;obtain⟨ax,h1,rfl⟩:=hc;exact da ff (YA hR (bL h1 hE) hK) (by simp[execOp,hop])
 case convert s d x =>
  have hs:bD P (convert s d (a.eval x)) g w σ K->o.wpIn (WF ro) wn P a w (yF g w σ a o.dst K) (CB g w σ a Kp):=fun hh=>da ff hh (by simp[execOp,hop]);split at hc
  ·rename_i k' k ax hs1 w7 h1;cases hc;exact hs (Tl hR hs1 w7 (bL h1 hE) hK)
  ·rename_i ax hs1 w7 h1;cases hc;have v1:=bL h1 hE;simp only[bf.run]at hK;generalize AX.ev e ax=z at v1 hK;cases z<;>simp only at hK;exact hs (VA hR hs1 w7 v1 ⟨_,rfl⟩ hK)
  ·rename_i el ax hs1 w7 h1;split at hc
   ·rename_i i he hi;split at hc
    ·cases hc;exact hs (VG (fi:=i) hR hs1 w7 he (bL h1 hE) hK)
    ·cases hc
   ·cases hc
  ·rename_i el ax hs1 w7 h1;split at hc
   ·rename_i i he hi;split at hc
    ·cases hc;have v1:=bL h1 hE;obtain⟨hn,hK⟩:=hK;refine hs (VH hR hs1 w7 he v1 hK ?_);generalize AX.ev e ax=z at v1 hn hK;generalize a.eval x=xv at v1;cases v1<;>simp only[fL]at hK hn
     ·exact⟨_,_,_,rfl⟩
     ·exact⟨_,_,_,rfl⟩
     ·exact⟨_,_,_,rfl⟩
     ·rename_i h;obtain⟨_,_,A,cap,rfl,_⟩:=h;exact⟨_,_,_,rfl⟩
     exact⟨_,_,_,rfl⟩
    ·cases hc
   ·cases hc
  ·rename_i t ax hs1 w7 h1;split at hc
   ·rename_i i hi;split at hc
    ·cases hc
    rename_i h0;cases hc;exact hs (VK hR hs1 w7 hi (by simpa using h0) (bL h1 hE) hK)
   ·cases hc
  ·rename_i t ax hs1 w7 h1;split at hc
   ·rename_i i hi;cases hc;exact hs (VL hR hs1 w7 hi (bL h1 hE) hK)
   ·cases hc
  ·cases hc
 case makeInterface t x =>
  split at hc
  ·cases hc
  ·cases hc
  rename_i d h1 h2;simp only[aW]at hc;obtain⟨ax,h3,rfl⟩:=hc;cases hu:P.underlying t with
  | none=>exact absurd hu h2
  | some d=>exact da ff (QI hR hu (fun ms e=>h1 ms (by rw[hu,e])) (bL h3 hE) hK) (by simp[execOp,hop])
 case makeFunc fn first cap =>
  split at hc
  ·rename_i az bs h1 h2;cases hc;obtain⟨a1,a2⟩:=rq h1 hE;obtain⟨b1,b2⟩:=rq h2 hE;exact uK ff (v:= .func fn (first.map a.eval) (cap.map a.eval)) hR (by simp[execOp,hop,Instr.makeFunc]) (.fn fn _ _ _ _ a1 b1 a2 b2) hK
  ·cases hc
 case slice t x lo hi mx =>
  split at hc
  ·rename_i ax al ah am h1 h2 h3 h4;have v1:=bL h1 hE
   have hm:am=none->mx=none:=fun e=>by
    cases mx with
    | none=>rfl
    | some m=>simp only[RT,Option.map_eq_some_iff]at h4;obtain⟨b,_,rfl⟩:=h4;cases e
   split at hc
   ·rename_i hu;split at hc
    ·rename_i hn;cases hc;have:mx=none:=hm (by simpa using hn);subst this;exact da ff (VB hR hu v1 (l5 h2 hE) (l5 h3 hE) hK) (by simp[execOp,hop])
    ·cases hc
   ·rename_i el hu;split at hc
    ·simp only[aW]at hc;obtain⟨aS,he,rfl⟩:=hc;have:mx=none:=hm rfl;subst this;refine da ff (VC hR hu he v1 (l5 h2 hE) (l5 h3 hE) ?_) (by simp[execOp,hop]);simp only[bf.run]at hK;clear v1;generalize AX.ev e ax=z at hK |-;cases z<;>exact hK
    ·rename_i bm bh;simp only[aW]at hc;obtain⟨aS,he,rfl⟩:=hc;have b3:=l5 h3 hE;have b4:=l5 h4 hE;cases hi with
     | none=>cases h3
     | some hi =>
       cases mx with
       | none=>cases h4
       | some mx =>
         unfold aaU at hK;split at hK
         ·refine da ff (TG (vl:=lo.map a.eval) (vh:=a.eval hi) (vm:=a.eval mx) (lo:=al.map (AX.ev e)) hR hu he v1 (l5 h2 hE) b3 b4 ?_) (by simp[execOp,hop]);clear h2 b3 b4 v1;cases al with
          | none=>exact hK
          | some al=>exact hK
         refine da ff (DE (vl:=lo.map a.eval) (vh:=a.eval hi) (vm:=a.eval mx) (lo:=al.map (AX.ev e)) hR hu he v1 (l5 h2 hE) b3 b4 ?_) (by simp[execOp,hop]);clear h2 b3 b4 v1;cases al with
         | none=>exact hK
         | some al=>exact hK
    ·cases hc
   ·rename_i n el hu;split at hc
    ·rename_i hn;simp only[aW]at hc;obtain⟨aS,he,rfl⟩:=hc;have:mx=none:=hm (by simpa using hn);subst this;refine da ff (VQ (lo:=al.map (AX.ev e)) (hi:=ah.map (AX.ev e)) hR hu he v1 (l5 h2 hE) (l5 h3 hE) ?_) (by simp[execOp,hop]);clear h2 h3 v1;cases al<;>cases ah<;>exact hK
    ·cases hc
   ·cases hc
  ·cases hc
 case fieldAddr s x f =>
  split at hc
  ·rename_i fs ax hu h1;simp only[eR]at hc;obtain⟨fi,hf,hc⟩:=hc;split at hc
   ·cases hc
   rename_i h0;cases hc;cases hi:P.info? fi.type with
   | none=>simp[hi]at h0
   | some i=>exact da ff (QG hR hu hf hi (by simpa[hi]using h0) (bL h1 hE) hK) (by simp[execOp,hop])
  ·cases hc
 case field s x f =>
  split at hc
  ·rename_i fs ax hu h1;simp only[eR]at hc;obtain⟨fi,hf,hc⟩:=hc;split at hc
   ·rename_i ag i hA hi;split at hc
    ·cases hc;exact da ff (QF hR hu hf hA hi (bL h1 hE) hK) (by simp[execOp,hop])
    ·cases hc
   ·cases hc
  ·cases hc
 case indexAddr t x y =>
  split at hc
  ·rename_i el ax ay hu h1 h2;simp only[aW]at hc;obtain⟨aS,he,rfl⟩:=hc;refine da ff (N7 hR hu he (bL h1 hE) (bL h2 hE) ?_) (by simp[execOp,hop]);simp only[bf.run]at hK;generalize AX.ev e ax=z at hK |-;generalize AX.ev e ay=z' at hK |-;cases z'<;>simp only at hK |-;cases z<;>exact hK
  ·rename_i n el ax ay hu h1 h2;simp only[aW]at hc;obtain⟨aS,he,rfl⟩:=hc;refine da ff (N8 hR hu he (bL h1 hE) (bL h2 hE) ?_) (by simp[execOp,hop]);simp only[bf.run]at hK;generalize AX.ev e ax=z at hK |-;generalize AX.ev e ay=z' at hK |-;cases z'<;>simp only at hK |-;cases z<;>exact hK
  ·cases hc
 case index t x y =>
  split at hc
  ·rename_i ax ay hu h1 h2;cases hc;exact da ff (Tm hR hu (bL h1 hE) (bL h2 hE) hK) (by simp[execOp,hop])
  ·rename_i n el ax ay hu h1 h2;simp only[aW]at hc;obtain⟨aS,he,rfl⟩:=hc;exact da ff (Tn hR hu he (bL h1 hE) (bL h2 hE) hK) (by simp[execOp,hop])
  ·cases hc
 case extract x i =>
  simp only[aW]at hc;obtain⟨ax,h1,rfl⟩:=hc;exact da ff (Nj hR (bL h1 hE) hK) (by simp[execOp,hop])
 case makeSlice t l c =>
  split at hc
  ·rename_i el al ac hu h1 h2;split at hc
   ·rename_i aS z he hz;cases hc;split at hK
    ·simp only[bf.run]at hK;split at hK
     ·split at hK
      ·rename_i hn;split at hK
       ·rename_i q1 q2;refine da ff (QM hR hn hu he hz (bL h1 hE) (bL h2 hE) ?_) (by simp[execOp,hop]);simp only[q1,q2];exact hK
       exact hK.elim
      exact hK.elim
     exact hK.elim
    exact da ff (Nk hR hu he hz (bL h1 hE) (bL h2 hE) hK) (by simp[execOp,hop])
   ·cases hc
  ·cases hc
 case range t x =>
  split at hc
  ·rename_i ht;simp only[aW]at hc;obtain⟨ax,h1,rfl⟩:=hc;have hv:=bL h1 hE;simp only[bf.run]at hK;generalize AX.ev e ax=z at hv hK;generalize fX:a.eval x=xv at hv;cases hv<;>simp only at hK;rename_i s;obtain⟨r1,r2⟩:=hR.pG (.stringIter ⟨s.toArray⟩ 0) (.fZ s 0) 1 0 ⟨by simp[aC.push],w.heap.size,by simp[aC.push],heap_alloc_new w _⟩;refine nj ff (v:= .pointer (some ⟨w.heap.size,0,none⟩)) (w':=w.alloc (.stringIter ⟨s.toArray⟩ 0)) ?_ ⟨_,_,_,_,rfl,r1,r2,.ref _ _ _ ⟨by simp[aC.push,hR.len],_,rfl,fun _=>⟨by simp[aC.push,hR.len],rfl⟩⟩,hK⟩;simp[execOp,hop,fX,Instr.range,aU ht,newObj,Sem.run]
  ·cases hc
 case next x b =>
  split at hc
  ·rename_i hb;simp only[aW]at hc;obtain⟨ax,h1,rfl⟩:=hc;have hv:=bL h1 hE;simp only[bf.run]at hK;generalize AX.ev e ax=z at hv hK;split at hK
   ·split at hK
    ·rename_i l _ s pos hl;generalize fX:a.eval x=xv at hv;cases hv with
     | ref _ _ _ hO =>
       obtain⟨_,A,rfl,h2⟩:=hO;obtain⟨mz,bb,vJ,jw⟩:=hR.ok l _ hl;obtain⟨h3,h4⟩:=h2 mz;rw[vJ]at h3;cases h3;have hsz:(⟨s.toArray⟩:ByteArray).size=s.length:=rfl;split at hK
       ·rename_i hlt
        have VO:=hR.update (o':= .fZ s (pos+(Utf8.decode ⟨s.toArray⟩ pos).2)) (w':= { w with heap:=w.heap.setIfInBounds A.block (.stringIter ⟨s.toArray⟩ (pos+(Utf8.decode ⟨s.toArray⟩ pos).2)) }) hl rfl vJ
         aT rfl rfl rfl (fun c hc=>by simp[Array.getElem?_setIfInBounds,Ne.symm hc]) (fun _=>⟨mz,_,vJ,by have:=(dN.1 jw).1;simp[this]⟩)
        refine nj ff ?_ ⟨_,g,_,_,rfl,VO.1,VO.2,.bg _ #[.bool true,.int .i64 pos,.int .i32 (Utf8.decode ⟨s.toArray⟩ pos).1] rfl (fun i hi=>?_),hK⟩
        ·rw[h4]at fX;have YM:pos<(⟨s.toArray⟩:ByteArray).size:=hlt;simp only[execOp,hop,fX,Instr.next,getObj,setObj,Sem.run_bind,Sem.run,jw,Result.andThen,hb,YM,if_true];have:=(dN.1 jw).1;simp[this,goInt]
        match i,hi with
        | 0,_=>exact .bool true
        | 1,_=>exact .int _ _
        | 2,_=>exact .int _ _
       rename_i hlt;refine nj ff (v:= .tuple #[.bool false]) (w':=w) ?_ ⟨_,g,_,_,rfl,hR,.refl _ _ _,.bg _ _ rfl (fun i hi=>?_),hK⟩
       ·rw[h4]at fX;have YM:¬ pos<(⟨s.toArray⟩:ByteArray).size:=hlt;simp only[execOp,hop,fX,Instr.next,getObj,setObj,Sem.run_bind,Sem.run,jw,Result.andThen,hb,YM,if_false];rfl
       match i,hi with
       | 0,_=>exact .bool false
    exact hK.elim
   exact hK.elim
  ·cases hc
 case makeMap t r =>
  cases r with
  | some r=>cases hc
  | none =>
    cases hc;exact da ff (QN (t:=t) hR hK) (by simp[execOp,hop])
 case lookup t x k ok =>
  split at hc
  ·rename_i key elem ax ak ht h1 h2;split at hc
   ·rename_i kd z hk hz;cases hc;obtain⟨d,hd,hkk⟩:=eR.1 hk;refine da ff (Tx (ok:=ok) hR ht hd (FD hkk) hz (bL h1 hE) (bL h2 hE) ?_) (by simp[execOp,hop]);simp only[bf.run,bN,fH]at hK;generalize AX.ev e ax=z at hK |-;cases z<;>exact hK
   ·cases hc
  ·cases hc
 case mapUpdate t m k v =>
  split at hc
  ·rename_i key elem am ak av ht h1 h2 h3;split at hc
   ·rename_i kd hk;cases hc;obtain⟨d,hd,hkk⟩:=eR.1 hk;exact LY ff hR ht hd (FD hkk) (bL h1 hE) (bL h2 hE) (bL h3 hE) (by simp[execOp,hop]) hK
   ·cases hc
  ·cases hc
 case insert t m k v =>
  split at hc
  ·rename_i key elem am ak av ht h1 h2 h3;split at hc
   ·rename_i kd hk;cases hc;obtain⟨d,hd,hkk⟩:=eR.1 hk;exact LY ff hR ht hd (FD hkk) (bL h1 hE) (bL h2 hE) (bL h3 hE) (by simp[execOp,hop]) hK
   ·cases hc
  ·cases hc
 case mapEntry t m k =>
  split at hc
  ·rename_i key elem ax ak ht h1 h2;split at hc
   ·rename_i kd z hk hz;cases hc;obtain⟨d,hd,hkk⟩:=eR.1 hk;exact da ff (Tz hR ht hd (FD hkk) hz (bL h1 hE) (bL h2 hE) hK) (by simp[execOp,hop])
   ·cases hc
  ·cases hc
 case entryStore t m k v =>
  split at hc
  ·rename_i am ak av h1 h2 h3;cases hc;exact abD (t:=t) ff hR (bL h1 hE) (bL h2 hE) (bL h3 hE) (by simp[execOp,hop]) hK
  ·cases hc
 case sliceToArrayPointer t x =>
  split at hc
  ·rename_i n e ax ht h1;cases hc;exact da ff (VW hR ht (bL h1 hE) hK) (by simp[execOp,hop])
  ·cases hc
 case typeAssert x xt T ok =>
  split at hc
  ·cases hc
  ·cases hc
  rename_i d hd hu;split at hc
  ·rename_i ax z h1 hz;cases hc;exact da ff (VU (xt:=xt) hR hu (fun l e=>hd l e) hz (bL h1 hE) hK) (by simp[execOp,hop])
  ·cases hc
 case panic x =>
  simp only[aW]at hc;obtain⟨ax,h1,rfl⟩:=hc;have v1:=bL h1 hE;simp only[bf.run]at hK;generalize AX.ev e ax=z at v1 hK;generalize fX:a.eval x=xv at v1;cases v1<;>simp only at hK;rename_i t b v h;refine ni ff ?_;have:(execOp a.eval o).run P w = .halt (.panic (.iface t v)) w:=by simp[execOp,hop,fX,Instr.panic]
  rw[this];exact⟨rfl,.iface t v,g,.iS t b,σ,rfl,hR,.refl _ _ _,.iS t b v h,hK⟩
 case call c =>
  obtain⟨callee,args,ats⟩:=c;simp only at hc;cases callee with
  | invoke r m =>
    simp only at hc;split at hc
    ·rename_i ar az h1 h2;cases hc;have e1:(#[a.eval r]++args.map a.eval)[0]? = some (a.eval r):=by rw[bT aT];rfl
     have e2:(args.map a.eval).extract 0 args.size=args.map a.eval:=by
      have:=Array.extract_size (xs:=args.map a.eval);simpa using this
     exact adq ff hR (bL h1 hE) (rq h2 hE) (by simp[execOp,hop,resolve,invoke,e1,e2]) hK
    ·cases hc
  | value f =>
    simp only at hc;split at hc
    ·rename_i gf ax h0 h2;cases hc;obtain⟨⟨fn,hf,hn,hb,qz,qM⟩,hK⟩:=hK
     have hfg:f = .func gf:=by
      cases f with
      | func f =>
        simp only[aaT]at h0;split at h0
        ·split at h0
         ·cases h0;rfl
         ·cases h0
        ·cases h0
      | _=>cases h0
     subst hfg
     have hargs:∃ x0,args = #[x0]/\cX nt x0=some ax:=by
      cases hl:args.toList with
      | nil=>rw[hl]at h2;cases h2
      | cons x0 r =>
        rw[hl]at h2;simp only[Cw]at h2;split at h2
        ·rename_i a1 az1 e1 e2;cases h2;cases r with
         | nil=>exact⟨x0,by rw[<-dW (xs:=args),hl],e1⟩
         | cons x1 r =>
           simp only[Cw]at e2;split at e2<;>cases e2
        ·cases h2
     obtain⟨x0,rfl,hx0⟩:=hargs;have v1:=bL hx0 hE;refine uK ff hR (v:=a.eval x0) ?_ v1 hK;simp only[execOp,hop,resolve,Sem.run_bind,Act.eval,Deferred.ofValue,Sem.run_pure,Result.andThen_ok,invoke];simp only[List.map_toArray,bN,fH,List.append_toArray,gj,cI];rw[run_callFunc_extern hf hn hb qz qM];rfl
    ·rename_i af az h1 h2 _
     have key:∃ q,(bf.call q af az).run P e σ K Kp:=by
      cases hc;exact YJ hK
     clear hc hK;obtain⟨qq,hK⟩:=key;have v1:=bL h1 hE;simp only[bf.run]at hK;generalize AX.ev e af=z at v1 hK;generalize fX:a.eval f=fv at v1;by_cases VZ:∃ l,z = .lW l
     ·obtain⟨l,rfl⟩:=VZ;cases v1;rename_i hy;obtain⟨hl,b,rfl,hb⟩:=hy;obtain⟨a1,a2⟩:=rq h2 hE;simp only at hK
      have both:∀ q:Bool,(if q then False else oF P l (az.map (AX.ev e)) σ fun
       | .ret r,σ'=>K r σ'
       | .panic r,σ'=>Kp r σ')->o.wpIn (WF ro) wn P a w (yF g w σ a o.dst K) (CB g w σ a Kp):=fun q hK=>by
       cases q with
       | true=>exact(by simpa using hK:False).elim
       | false =>
       simp only[aN,if_false]at hK;refine YL ff (b:=b) (vs:=args.map a.eval) ?_ hR hb a1 a2 hK;simp only[execOp,hop,resolve,Sem.run_bind,fX,Deferred.ofValue,Sem.run_pure,Result.andThen_ok,invoke];simp
      exact both _ hK
     cases v1<;>(try exact hK.elim)
     case lW=>exact absurd ⟨_,rfl⟩ VZ
     rename_i fn first cap first' cap' hl hl' hh Dy
     cases fn<;>(try exact hK.elim);rename_i n;simp only at hK;obtain⟨a1,a2⟩:=rq h2 hE;obtain⟨b1,b2⟩:=qb hl hh a1 a2;obtain⟨c1,c2⟩:=qb b1 b2 hl' Dy
     have hex:Has P n->(execOp a.eval o).run P w = .ok (.enter n (first'++args.map a.eval++cap')) w:=fun hb=>by
      simp only[execOp,hop,resolve,Sem.run_bind,fX,Deferred.ofValue,Sem.run_pure,Result.andThen_ok,invoke,r9 hb]
     have both:∀ q:Bool,(if q then ∃ r,(∀ H,mD P n (first++az.map (AX.ev e)++cap) (σ++H) r)/\K r σ else cV P n (first++az.map (AX.ev e)++cap) σ fun
      | .ret r,σ'=>K r σ'
      | .panic r,σ'=>Kp r σ')->o.wpIn (WF ro) wn P a w (yF g w σ a o.dst K) (CB g w σ a Kp):=fun q hK=>by
      cases q with
      | true =>
        simp only[if_true]at hK;obtain⟨r,hq,hk⟩:=hK;have hq:=hq [];rw[cI]at hq;exact Kg ff (hex hq.1) hR c1 c2 (hq.mono fun out σ' ⟨h1,h2⟩=>by subst h1;subst h2;exact hk)
      | false =>
        simp only[aN,if_false]at hK;exact Kg ff (hex hK.1) hR c1 c2 hK
     exact both _ hK
    ·cases hc
  | builtin b =>
    have hs:∀ {s:Sem Value} {K:AV->ai->Prop},bD P s g w σ K->builtin b ats o.type (args.map fun | .const _=>true|_=>false) (args.map a.eval)=(do pure (.value (← s)):Sem Next)->o.wpIn (WF ro) wn P a w (yF g w σ a o.dst K) (CB g w σ a Kp):=fun hh hb=>by
     refine da ff hh ?_;simp only[execOp,hop,resolve];exact hb
    cases b<;>simp only at hc<;>(try (cases hc;done))
    case len =>
     split at hc
     ·rename_i t x ht hx;have hargs:args = #[x]:=by rw[<-dW (xs:=args),hx]
      subst hargs;split at hc
      ·rename_i hu;simp only[aW]at hc;obtain⟨ax,h1,rfl⟩:=hc;refine hs (s:=Builtin.len_ ats o.type #[a.eval x]) (Tp hR ht hu (bL h1 hE) ?_) (by simp[builtin]);simp only[bf.run]at hK;generalize AX.ev e ax=z at hK |-;cases z<;>exact hK
      ·rename_i el hu;simp only[aW]at hc;obtain⟨ax,h1,rfl⟩:=hc;refine hs (s:=Builtin.len_ ats o.type #[a.eval x]) (Tq hR ht hu (bL h1 hE) ?_) (by simp[builtin]);simp only[bf.run]at hK;generalize AX.ev e ax=z at hK |-;cases z<;>exact hK
      ·rename_i k1 e1 hu;simp only[aW]at hc;obtain⟨ax,h1,rfl⟩:=hc;refine hs (s:=Builtin.len_ ats o.type #[a.eval x]) (TC hR ht hu (bL h1 hE) ?_) (by simp[builtin]);simp only[bf.run,bN,fH]at hK;generalize AX.ev e ax=z at hK |-;cases z<;>exact hK
      ·cases hc
     ·cases hc
    case copy =>
     split at hc
     ·rename_i t x y ht hx;have hargs:args = #[x,y]:=by rw[<-dW (xs:=args),hx]
      subst hargs;split at hc
      ·rename_i el ax ay hu h1 h2;simp only[aW]at hc;obtain⟨el2,he,rfl⟩:=hc;exact hs (s:=Builtin.copy_ ats o.type #[a.eval x,a.eval y]) (TD hR ht hu he (bL h1 hE) (bL h2 hE) hK) (by simp[builtin])
      ·cases hc
     ·cases hc
    case clear =>
     split at hc
     ·rename_i t x ht hx;have hargs:args = #[x]:=by rw[<-dW (xs:=args),hx]
      subst hargs;split at hc
      ·rename_i el ax hu h1;split at hc
       ·rename_i el2 z he hz;cases hc;exact hs (s:=Builtin.clear_ ats o.type #[a.eval x]) (VX hR ht hu he hz (bL h1 hE) hK) (by simp[builtin])
       ·cases hc
      ·cases hc
     ·cases hc
    case append =>
     split at hc
     ·rename_i t u x y ht hu hx;have hargs:args = #[x,y]:=by rw[<-dW (xs:=args),hx]
      subst hargs;split at hc
      ·rename_i el aS ax ay Aa IJ h1 h2;simp only[aW]at hc;obtain⟨el2,he,rfl⟩:=hc;split at hK
       ·exact hs (s:=Builtin.append_ ats o.type #[a.eval x,a.eval y]) (LU hR ht hu Aa IJ aT he (bL h1 hE) (bL h2 hE) hK) (by simp[builtin])
       split at hK
       ·exact hs (s:=Builtin.append_ ats o.type #[a.eval x,a.eval y]) (TF hR ht hu Aa IJ aT he (bL h1 hE) (bL h2 hE) hK) (by simp[builtin])
       split at hK
       ·simp only[bf.run]at hK;split at hK
        ·split at hK
         ·rename_i hn;split at hK
          ·rename_i ys hys;exact hs (s:=Builtin.append_ ats o.type #[a.eval x,a.eval y]) (QJ hR ht hu Aa IJ aT he (bL h1 hE) (bL h2 hE) (.inl rfl) hn hys hK.1 hK.2.1 hK.2.2.1 hK.2.2.2) (by simp[builtin])
          exact hK.elim
         exact hK.elim
        exact hK.elim
       exact hs (s:=Builtin.append_ ats o.type #[a.eval x,a.eval y]) (yC hR ht hu Aa IJ aT he (bL h1 hE) (bL h2 hE) (yy _ _) hK) (by simp[builtin])
      ·rename_i el ax ay Aa IJ h1 h2;simp only[aW]at hc;obtain⟨el2,he,rfl⟩:=hc;split at hK
       ·exact hs (s:=Builtin.append_ ats o.type #[a.eval x,a.eval y]) (LU hR ht hu Aa IJ aT he (bL h1 hE) (bL h2 hE) hK) (by simp[builtin])
       exact hs (s:=Builtin.append_ ats o.type #[a.eval x,a.eval y]) (yC hR ht hu Aa IJ aT he (bL h1 hE) (bL h2 hE) (yy _ _) hK) (by simp[builtin])
      ·cases hc
     ·cases hc
    case unsafeSliceData =>
     split at hc
     ·rename_i t x ht hx;have hargs:args = #[x]:=by rw[<-dW (xs:=args),hx]
      subst hargs;split at hc
      ·rename_i el ax hu h1;simp only[aW]at hc;obtain⟨el2,he,rfl⟩:=hc;exact hs (s:=Builtin.unsafeSliceData_ ats o.type #[a.eval x]) (VJ hR (bL h1 hE) hK) (by simp[builtin])
      ·cases hc
     ·cases hc
    case unsafeString =>
     split at hc
     ·rename_i t t2 x y ht hx;have hargs:args = #[x,y]:=by rw[<-dW (xs:=args),hx]
      have akm:ats = #[t,t2]:=by rw[<-dW (xs:=ats),ht]
      subst hargs;subst akm;split at hc
      ·rename_i e1 ax ay hu h1 h2;split at hc
       ·rename_i hce;cases hc;exact hs (s:=Builtin.unsafeString_ #[t,t2] o.type #[a.eval x,a.eval y]) (Tw hR hu (by simpa using hce) (bL h1 hE) (bL h2 hE) hK) (by simp[builtin])
       ·cases hc
      ·cases hc
     ·cases hc
    case min =>
     split at hc
     ·rename_i ax az h1;cases hc;obtain⟨a1,a2⟩:=rq h1 hE;cases hl:args.toList with
      | nil=>rw[hl]at h1;cases h1
      | cons x xs =>
        have hargs:args=(x::xs).toArray:=by rw[<-dW (xs:=args),hl]
        subst hargs;have v0:=a2 0 aT;refine hs (s:=Builtin.min_ ats o.type (a.eval x::xs.map a.eval).toArray) (VD (x:=ax.ev e) (xs:=az.map (AX.ev e)) hR (by simpa using v0) (by simpa using a1) (fun i hi=>by simpa using a2 (i+1) (by simpa using hi)) hK) (by simp[builtin])
     ·cases hc
    case max =>
     split at hc
     ·rename_i ax az h1;cases hc;obtain⟨a1,a2⟩:=rq h1 hE;cases hl:args.toList with
      | nil=>rw[hl]at h1;cases h1
      | cons x xs =>
        have hargs:args=(x::xs).toArray:=by rw[<-dW (xs:=args),hl]
        subst hargs;have v0:=a2 0 aT;refine hs (s:=Builtin.max_ ats o.type (a.eval x::xs.map a.eval).toArray) (VE (x:=ax.ev e) (xs:=az.map (AX.ev e)) hR (by simpa using v0) (by simpa using a1) (fun i hi=>by simpa using a2 (i+1) (by simpa using hi)) hK) (by simp[builtin])
     ·cases hc
end
