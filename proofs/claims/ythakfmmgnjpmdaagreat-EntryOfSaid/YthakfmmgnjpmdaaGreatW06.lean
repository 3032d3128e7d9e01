/- Part. -/
import Derived.Test.YthakfmmgnjpmdaaGreatW05
import Derived.IntWalk
import Derived.Lib.UnsafeStr
import Derived.Lib.Builder
import Derived.Laws.Externs
import Derived.MapKept
set_option linter.all false
namespace Go.AM
section
variable {P:Program} {g:aM} {w:World} {σ : ae} {K:AV->ae->Prop}
def FD {t : TypeId} {n : Nat} {el : TypeId} {fi : TypeInfo} {z : AV} {e : Env} {a : Act} {nt : Nat} {parts : Array (Nat × Operand)} {ps : List ((Nat × Nat) × AX)} (hR : Rel g w σ) (hE : f_ nt g w e a.tmps)
    (hz:mJ P t=some z) (hu:P.underlying t=some (.array n el)) (hi:P.info? el=some fi)
    (hp:p_ nt (fun i=>some (i*P.cellsOf el,P.cellsOf el)) parts.toList=some ps)
    (hK:mH z.cells e (ps.map fun p=>(p.1.1,p.1.2,p.2)) fun cs=>K (.agg cs) σ):cq P (Instr.build t (parts.map fun(i,x)=>(i,a.eval x))) g w σ K:=by
 obtain⟨v,h1,h2⟩:=A6 hz w;obtain⟨h3,h4⟩:=h2 g w;obtain⟨h5,h6⟩:=nC h3 h4;obtain⟨cs',us,r1,r2,r3,r4,r5,r6⟩:=Ir (fun i=>some (i*P.cellsOf el,P.cellsOf el)) hE parts.toList ps z.cells v.cells _ hp h5 h6 h4 hK;refine cq.pure hR (v:= .agg us) ?_ (.agg cs' us r2 r4 r3) r6;have hc:P.cellsOf el=fi.size:=by simp[Program.cellsOf,hi]
 simp only[Instr.build,Sem.run_bind,h1,Result.andThen_ok,bw hu,dX hi]
 have Fe:Instr.fill (fun i=>some (i*fi.size,fi.size)) v.cells (parts.map fun(i,x)=>(i,a.eval x)).toList=some us:=by
  rw[<-r1,hc]
  congr 1
  simp
 rw[Fe];rfl
def Iu{el:El}{a:AV}(h:a.fits el=true): a.cells.all AV.scalar=true/\a.cells.length=el.sz/\ ∀ c,c<el.sz->a.cells.getD c .undef=a.cell c:=by
 cases a<;>simp only[AV.fits,Bool.and_eq_true,beq_iff_eq]at h<;>first
  |(obtain⟨⟨_,h2⟩,h3⟩:=h;exact⟨h3,h2,fun _ _=>rfl⟩)
  |(obtain⟨_,h2⟩:=h;exact⟨rfl,by simp[AV.cells,h2],fun c hc=>by rw[show c=0 from by omega];rfl⟩)
  | cases h
def Ro {el : El} {e : Env} {a : Act} {nt : Nat} (hE : f_ nt g w e a.tmps) : ∀ (parts : List (Nat × Operand)) (ps : List (Nat × AX)) (xs : List AV) (vs : Array Value) (K : List AV -> Prop),
    p_ nt some parts=some ps->vs.size=xs.length*el.sz->j9 g w el xs vs->(∀ i,i<xs.length->(xs.getD i .undef).fits el=true)->lH el xs e ps K ->
    ∃ xs' us,Instr.fill (fun i=>some (i*el.sz,el.sz)) vs (parts.map fun p=>(p.1,a.eval p.2))=some us/\us.size=xs'.length*el.sz/\xs'.length=xs.length/\j9 g w el xs' us/\(∀ i,i<xs'.length->(xs'.getD i .undef).fits el=true)/\K xs':=by
 intro parts
 induction parts with
 | nil =>
   intro ps xs vs K h hs hh hf hK;cases h;exact⟨xs,vs,rfl,hs,rfl,hh,hf,hK⟩
 | cons p parts ih =>
   intro ps xs vs K h hs hh hf hK;obtain⟨i,x⟩:=p;simp only[p_]at h;split at h
   ·rename_i q ax ps' h1 h2 h3;cases h1;cases h;simp only[lH]at hK;obtain⟨k1,k2,k3⟩:=hK;have hv:=dB h2 hE;obtain⟨f1,f2,f3⟩:=Iu k1;obtain⟨c1,c2⟩:=nC hv f1
    have hrow:i*el.sz+el.sz<=vs.size:=by
     rw[hs]
     calc i*el.sz+el.sz=(i+1)*el.sz:=by rw[ei]
      _<=xs.length*el.sz:=bL _ k2
    have hput:∀ (us:List Value) (vs:Array Value) (off j:Nat),off+j+us.length<=vs.size->(us.zipIdx j).foldl (fun cs (p:Value × Nat)=>cs.setIfInBounds (off+p.2) p.1) vs=putRow vs (off+j) us:=by
     intro us
     induction us with
     | nil=>intros;rfl
     | cons u us ih =>
       intro vs off j hh;simp only[List.length_cons]at hh;simp only[List.zipIdx_cons,List.foldl_cons,putRow];exact ih _ off (j+1) (by simp;omega)
    have Ul:(a.eval x).cells.zipIdx.foldl (fun cs (p:Value × Nat)=>cs.setIfInBounds (i*el.sz+p.2) p.1) vs=putRow vs (i*el.sz) (a.eval x).cells.toList:=by
     have:=hput (a.eval x).cells.toList vs (i*el.sz) 0 (by simp;omega);rw[<-Array.foldl_toList,Array.toList_zipIdx];simpa using this
    obtain⟨xs',us,r1,r2,r3,r4,r5,r6⟩:=ih ps' (xs.set i (ax.ev e)) (putRow vs (i*el.sz) (a.eval x).cells.toList) K h3 (by rw[size_putRow];simpa using hs)
     (fun j c hj hc => by
       simp only[fI]at hj;rw[rm _ _ _ (by simp;omega)];simp only[fK,<-c1,f2];by_cases ej:j=i
       ·subst ej;rw[if_pos (by omega),show(xs.set j (ax.ev e)).getD j .undef=ax.ev e by simp[k2],show j*el.sz+c-j*el.sz=c by omega,← f3 c hc];simpa using c2 c (by omega)
       ·have hne : ¬ (i * el.sz <= j * el.sz + c /\ j * el.sz + c < i * el.sz + el.sz) := by
         rintro⟨q1,q2⟩;rcases Nat.lt_or_gt_of_ne ej with h2|h2
         ·have:(j+1)*el.sz<=i*el.sz:=bL _ h2;rw[ei]at this;omega
         ·have:(i+1)*el.sz<=j*el.sz:=bL _ h2;rw[ei]at this;omega
        rw[if_neg hne,show(xs.set i (ax.ev e)).getD j .undef=xs.getD j .undef by simp[bP (Ne.symm ej)]];exact hh j c hj hc)
     (fun j hj => by
       simp only[fI]at hj;by_cases ej:j=i
       ·subst ej;simpa[k2]using k1
       ·have:=hf j hj;simpa[bP (Ne.symm ej)]using this) k3
    refine⟨xs',us,?_,r2,by rw[r3];simp,r4,r5,r6⟩;simp only[bf,Instr.fill];have e1:¬ ((a.eval x).cells.size≠el.sz\/vs.size<i*el.sz+(a.eval x).cells.size):=by omega
    rw[if_neg (by simpa using e1),Ul];exact r1
   ·cases h
def Iv {el : El} {z : AV} {v : Value} (n : Nat) (hz : VR g w z v) (hf : z.fits el = true) (hv : v.cells.size = el.sz) :
    j9 g w el (List.replicate n z) ((Array.range (n*el.sz)).map (v.cells[· % v.cells.size]!)):=by
 intro i c hi hc;simp only[fP]at hi;have h2:=vf hi hc;obtain⟨f1,f2,f3⟩:=Iu hf;obtain⟨c1,c2⟩:=nC hz f1;have h3:(i*el.sz+c) % el.sz=c:=by rw[fL,Nat.mul_add_mod];exact hJ hc
 have:=c2 c (by omega);rw[f3 c hc]at this;have e1:(List.replicate n z).getD i .undef=z:=by simp[hi]
 rw[e1]
 have e2:((Array.range (n*el.sz)).map (v.cells[· % v.cells.size]!)).getD (i*el.sz+c) Go.undef=v.cells.getD c Go.undef:=by
  have h4:c<v.cells.size:=by omega
  have h5:v.cells[c]! = v.cells[c]:=getElem!_pos v.cells c h4;have h6:v.cells.getD c Go.undef=v.cells[c]:=by rw[<-dA (h:=h4)]
  rw[h6,<-h5];simp[h2,hv,h3]
 rw[e2];exact this
def FR{e:TypeId}{el:El}{z:AV}(he:mI P e=some el)(hz:mJ P e=some z): ∃ v,(∀ w,(zeroValue e).run P w = .ok v w)/\(∀ g w,VR g w z v)/\v.cells.size=el.sz:=by
 obtain⟨fi,hi,_,hs,_,_,_,v,hv,hvs⟩:=j8 he;simp only[mJ,hi,hv,Option.bind_some]at hz;exact⟨v,fun w=>by simp[zeroValue,run_typeInfo hi,hv],fun g w=>(Ko hz g w).1,hvs⟩
def SQ (hR : Rel g w σ) (e : TypeId) {el : El} {zs : List AV} {vs : Array Value} {cap : Nat} (k1 : zs.length <= cap) (k2 : vs.size = cap * el.sz) (k3 : j9 g w el zs vs) (k4 : ∀ i, i < zs.length -> (zs.getD i .undef).fits el = true) :
    ∃ g', Rel g' (World.alloc w (.cells vs e)) (σ ++ [.vec el zs]) /\ fN σ g w (σ ++ [.vec el zs]) g' (World.alloc w (.cells vs e)) /\
      VR g' (World.alloc w (.cells vs e)) (.own el σ.length zs.length 0 zs.length) (.slice (some ⟨w.heap.size,0,none⟩) zs.length cap):=by
 have hm:=pN g w (.cells vs e) zs.length (some w.heap.size) cap hR.lt
 obtain⟨r1,r2⟩:=hR.AY (.cells vs e) (.vec el zs) zs.length cap
  ⟨by simp[aM.push],k4,.inr ⟨w.heap.size,vs,by simp[aM.push],ve _ vs e,by simp[aM.push,k2],by simp[aM.push,k1],fun i c hi hc=>by simp only[aM.push,if_true,cE];exact(k3 i c hi hc).mono hm,trivial⟩⟩
 exact⟨_,r1,r2,.own _ _ _ _ _ _ ⟨by simp[aM.push,hR.len],by simp[aM.push,hR.len],_,_,rfl,fun _=>⟨by omega,by simp[aM.push,hR.len],fun _=>by simp[aM.push,hR.len]⟩⟩⟩
def aaW (hR : Rel g w σ) (e : TypeId) {el : El} {zs : List AV} {vs : Array Value} (k2 : vs.size = zs.length * el.sz) (k3 : j9 g w el zs vs) (k4 : ∀ i, i < zs.length -> (zs.getD i .undef).fits el = true) :
    ∃ g', Rel g' (World.alloc w (.cells vs e)) σ /\ fN σ g w σ g' (World.alloc w (.cells vs e)) /\
      VR g' (World.alloc w (.cells vs e)) (.aG true el zs) (.slice (some ⟨w.heap.size,0,none⟩) zs.length zs.length):=by
 have hm:=zI g w (.cells vs e) hR.lt;obtain⟨r1,r2⟩:=hR.Yq (.cells vs e)
 have hcell:∀ i c,i<zs.length->c<el.sz->(World.alloc w (.cells vs e)).cell? ⟨w.heap.size,0+(i*el.sz+c),none⟩=some (vs.getD (i*el.sz+c) Go.undef):=fun i c hi hc=>by
  have h2:=vf hi hc;rw[cE];exact(ve w vs e).cell (by omega)
 exact⟨_,r1,r2,.aG true el zs w.heap.size 0 zs.length (.inr rfl) (fun _=>rfl) (Nat.le_refl _) k4 (fun i c hi hc=>by rw[hcell i c hi hc];rfl) (fun i c hi hc=>by unfold eT;rw[hcell i c hi hc];exact(k3 i c hi hc).mono hm)⟩
def OV {t e : TypeId} {el : El} {z : AV} {mt : Bool} {n : Nat} {en : Env} {a : Act} {nt : Nat} {parts : Array (Nat × Operand)} {ps : List (Nat × AX)} (hR : Rel g w σ) (hE : f_ nt g w en a.tmps)
    (hu:P.underlying t=some (.slice e)) (he:mI P e=some el) (hz:mJ P e=some z) (hn:n*el.sz<=2 ^ 24) (hzf:z.fits el=true) (hp:p_ nt some parts.toList=some ps)
    (hK:lH el (List.replicate n z) en ps fun xs=>if mt then K (.own el σ.length n 0 n) (σ++[.vec el xs])else K (.aG true el xs) σ) :
    cq P (Instr.buildSlice t n (parts.map fun(i,x)=>(i,a.eval x))) g w σ K:=by
 obtain⟨v,z1,z2,z3⟩:=FR he hz;obtain⟨fi,hi,_,hs,_⟩:=j8 he
 obtain⟨xs,us,r1,r2,r3,r4,r5,r6⟩:=Ro (g:=g) (w:=w) (el:=el) hE parts.toList ps (List.replicate n z) ((Array.range (n*el.sz)).map (v.cells[· % v.cells.size]!)) _ hp (by simp) (Iv n (z2 g w) hzf z3)
  (fun i hi=>by simp only[fP]at hi;simpa[hi]using hzf) hK
 simp only[fP]at r3
 have run:(Instr.buildSlice t n (parts.map fun(i,x)=>(i,a.eval x))).run P w = .ok (.slice (some ⟨w.heap.size,0,none⟩) n n) (World.alloc w (.cells us e)):=by
  have hn':¬ (n*el.sz>2 ^ 24):=by omega
  have Fe:Instr.fill (fun i=>some (i*el.sz,el.sz)) ((Array.range (n*el.sz)).map (v.cells[· % v.cells.size]!)) (parts.map fun(i,x)=>(i,a.eval x)).toList=some us:=by
   rw[<-r1];congr 1;simp
  simp only[Instr.buildSlice,Sem.run_bind,bw hu,Result.andThen_ok,dX hi,hs,if_neg hn'];by_cases h0:n*el.sz=0
  ·simp only[if_pos h0];rw[Sem.run_bind,Sem.run_pure,Result.andThen_ok]
   have ack:Instr.fill (fun i=>some (i*el.sz,el.sz)) ((Array.range (n*el.sz)).map ((#[]:Array Value)[· % (#[]:Array Value).size]!)) (parts.map fun(i,x)=>(i,a.eval x)).toList=some us:=by
    rw[<-Fe];congr 1;simp[h0]
   rw[ack];rfl
  ·simp only[if_neg h0];rw[Sem.run_bind,z1,Result.andThen_ok,Sem.run_bind,Sem.run_pure,Result.andThen_ok];rw[Fe];rfl
 cases mt with
 | true =>
   simp only[if_true]at r6;obtain⟨g',q1,q2,q3⟩:=SQ hR e (cap:=n) (by omega) (by rw[r2,r3]) r4 r5;rw[r3]at q3;exact⟨_,_,g',_,_,run,q1,q2,q3,r6⟩
 | false =>
   simp only[aI,if_false]at r6;obtain⟨g',q1,q2,q3⟩:=aaW hR e r2 r4 r5;rw[r3]at q3;exact⟨_,_,g',_,_,run,q1,q2,q3,r6⟩
def Ng {t e : TypeId} {el : El} {z x y : AV} {a b : Value} (hR : Rel g w σ) (hu : P.underlying t = some (.slice e)) (he : mI P e = some el) (hz : mJ P e = some z) (hx : VR g w x a) (hy : VR g w y b)
    (hK : match (generalizing := false) x, y with
      | .int .i64 k,.int .i64 m=>z.fits el=true/\0<=k/\k<=m/\m*(el.sz+1)<=2 ^ 40/\K (.own el σ.length k.toNat 0 k.toNat) (σ++[.vec el (List.replicate k.toNat z)])
      | _,_=>False):cq P (Instr.makeSlice t a b) g w σ K:=by
 obtain⟨v,z1,z2,z3⟩:=FR he hz;obtain⟨fi,hi,_,hs,_,hb,hsz,_⟩:=j8 he;cases hx<;>(try exact False.elim hK);rename_i k1 k;cases hy<;>(try (cases k1<;>exact False.elim hK));rename_i k2 m;cases k1<;>(try exact False.elim hK);cases k2<;>(try exact False.elim hK);simp only at hK;obtain⟨h1,h2,h3,h4,h5⟩:=hK;obtain⟨k,rfl⟩:=Int.eq_ofNat_of_zero_le h2;obtain⟨m,rfl⟩:=Int.eq_ofNat_of_zero_le (Int.le_trans h2 h3);have h4':m*(el.sz+1)<=2 ^ 40:=by exact_mod_cast h4
 have hm:m<=2 ^ 40:=c_ (Nat.le_mul_of_pos_right m (by omega)) h4';have h40:(2:Nat) ^ 40=1099511627776:=by decide
 have hkm:k<=m:=by omega
 have aax:∀ j:Nat,j<=m->IntKind.i64.wrap (j:Int)=j:=fun j hj=>IntWalk.i64_in _ (by omega)
 have Wm:fi.bytes*m<=2 ^ 48:=by
  have h6:fi.bytes*m<=24*(el.sz+1)*m:=bL _ hb;have h7:24*(el.sz+1)*m=24*(m*(el.sz+1)):=by rw[Nat.mul_assoc,fL (el.sz+1) m]
  have h48:(2:Nat) ^ 48=281474976710656:=by decide
  omega
 have htl:∀ j:Nat,j<=m->((decide ((j:Int)<0) || decide (((fi.bytes:Nat):Int)*(j:Int)>2 ^ 48))=false):=fun j hj=>by
  have:fi.bytes*j<=2 ^ 48:=c_ (Nat.mul_le_mul_left _ hj) Wm;have h9:((fi.bytes:Nat):Int)*(j:Int)<=2 ^ 48:=by exact_mod_cast this
  simp only[Bool.or_eq_false_iff,decide_eq_false_iff_not];exact⟨by omega,by omega⟩
 have afi:((Array.range (m*el.sz)).map (v.cells[· % v.cells.size]!)).size=m*el.sz:=by simp
 obtain⟨g',q1,q2,q3⟩:=SQ hR e (el:=el) (zs:=List.replicate k z) (vs:=(Array.range (m*el.sz)).map (v.cells[· % v.cells.size]!)) (cap:=m) (by simpa using hkm) afi
  (fun i c hi hc => by
    have:=Iv m (z2 g w) h1 z3 i c (by simp at hi ⊢;omega) hc;simp only[fP]at hi;rw[show (List.replicate k z).getD i .undef=z by simp[hi]];rwa[show (List.replicate m z).getD i .undef=z by simp[show i<m by omega]]at this)
  (fun i hi=>by simp only[fP]at hi;simpa[hi]using h1)
 simp only[fP]at q3;refine⟨_,_,g',_,_,?_,q1,q2,q3,by simpa using h5⟩;unfold Instr.makeSlice;simp only[Sem.run_bind,bw hu,Result.andThen_ok,asInt,asIntOf,Sem.run_pure,run_typeInfo hi,aax k hkm,aax m (Nat.le_refl _)]
 have ad0:¬ (((decide ((m:Int)<0) || decide (((fi.bytes:Nat):Int)*(m:Int)>2 ^ 48)) || decide ((k:Int)<0) || decide ((k:Int)>(m:Int)))=true):=by
  rw[htl m (Nat.le_refl _)];simp;omega
 rw[if_neg ad0];simp only[Sem.run_bind,run_askRoom,Result.andThen_ok,dX hi,hs,ff];by_cases h0:m*el.sz=0
 ·simp only[if_pos h0,Sem.run_pure,Result.andThen_ok,newRow,Sem.run_bind,run_newObj];have e9:∀ f:Nat->Value,(Array.range (m*el.sz)).map f = #[]:=fun f=>by simp[h0]
  rw[e9,e9];rfl
 ·simp only[if_neg h0,Sem.run_bind,z1,Result.andThen_ok,Sem.run_pure,newRow,run_newObj];rfl
def Wn {t u e : TypeId} {x : AV} {a : Value} (hR : Rel g w σ) (hs : P.underlying t = some (.slice e)) (hu : P.underlying u = some .string) (he : P.underlying e = some (.int .u8)) (hx : VR g w x a)
    (hK:ja σ ⟨false,1⟩ x fun xs=> ∃ s:List UInt8,xs=s.map (fun b=>AV.int .u8 b.toNat)/\K (.str s) σ) (hsl:∃ A n c,a = .slice A n c):cq P (convert t u a) g w σ K:=by
 obtain⟨xs,us,⟨s,hxs,hK⟩,hl,Dl,hsz,hh⟩:=wo (P:=P) hR hx hK;obtain⟨A,n,c,rfl⟩:=hsl;subst hxs;simp only[List.length_map,Nat.mul_one]at hl Dl hsz
 have hus:us=(s.map fun b=>Value.int .u8 b.toNat).toArray:=by
  apply Array.ext
  ·simp[hsz]
  ·intro i h1 h2;have:=hh i 0 (by simp;omega) (by simp);simp only[Nat.mul_one,gC]at this;rw[<-dA (h:=h1)]at this;have h3:i<s.length:=by omega
   have e1:((s.map fun b=>AV.int .u8 b.toNat).getD i .undef).cell 0 = .int .u8 (s[i]).toNat:=by simp[h3,AV.cell]
   rw[e1]at this;cases h4:us[i]with
   | int k m=>rw[h4]at this;cases this;simp
   | _=>rw[h4]at this;cases this
 simp only[Builtin.lenOf,Sem.run_pure]at hl;cases hl
 have loop:∀ (f:Value->ByteArray->Sem (ForInStep ByteArray)),(∀(b:UInt8) (r:ByteArray),f (.int .u8 b.toNat) r=Pure.pure (.yield (r.push b)))-> ∀(l:List UInt8) (acc:ByteArray) (w:World),(forIn (l.map fun b=>Value.int .u8 b.toNat) acc f).run P w = .ok (l.foldl ByteArray.push acc) w:=by
  intro f hf l
  induction l with
  | nil=>intro acc w;rfl
  | cons b l ih =>
    intro acc w;simp only[bf,List.forIn_cons,hf,Sem.run_bind,Sem.run_pure,Result.andThen_ok,List.foldl_cons];exact ih _ w
 have ad1:∀ (l:List UInt8) (acc:ByteArray),(l.foldl ByteArray.push acc)=⟨acc.data++l.toArray⟩:=by
  intro l
  induction l with
  | nil=>intro acc;simp
  | cons b l ih=>intro acc;rw[List.foldl_cons,ih];simp[ByteArray.push]
 refine cq.pure hR (v:= .string ⟨s.toArray⟩) ?_ (.str s) hK;simp only[convert,Sem.run_bind,bw hs,bw hu,Result.andThen_ok,bw he];cases A with
 | none =>
   have:s=[]:=by
    have:=Dl w rfl;simp only[Builtin.firstCells,Sem.run_pure]at this;cases this;have:(0:Nat)=s.length:=by simpa using hsz
    exact iP this.symm
   subst this;rfl
 | some A =>
   have h1:=Dl w rfl;simp only[Builtin.firstCells,Nat.mul_one]at h1;simp only[Conv.bytesToString,Sem.run_bind,h1,Result.andThen_ok];rw[hus,<-Array.forIn_toList];rw[show (List.map (fun b=>Value.int .u8 (b.toNat:Int)) s).toArray.toList=List.map (fun b=>Value.int .u8 (b.toNat:Int)) s from rfl];rw[loop _ (fun b r=>by simp) s ByteArray.empty w,ad1];simp
def Wo {op : BinOp} {t : TypeId} {ox oy : Operand} (hop : op = .eql \/ op = .neq) (hc : nB ox = true \/ nB oy = true) (a b : Value) (ha : ∀ cs, a ≠ .agg cs) (w : World) :
    (eqGuard op t ox oy a b).run P w = .ok () w:=by
 by_cases h:a = .nilIface/\b = .nilIface
 ·obtain⟨rfl,rfl⟩:=h;rcases hc with h|h
  ·cases ox <;> simp only [nB] at h <;> first
    |(cases h;done)
    |(rcases hop with rfl|rfl<;>rfl)
  ·cases oy <;> simp only [nB] at h <;> first
    |(cases h;done)
    |(rcases hop with rfl|rfl<;>cases ox<;>rfl)
 ·rcases hop with rfl | rfl <;> cases a <;> first
   | exact absurd rfl (ha _)
   | rfl
   |(cases b<;>first|rfl|exact absurd ⟨rfl,rfl⟩ h)
def Dm {t : TypeId} {ms : Array (String × TypeId)} (hu : P.underlying t = some (.interface ms)) (u : TypeId) (x : Value) (D : Nat) (w : World) :
    (Op.equalIn (D+1) t .nilIface .nilIface).run P w = .ok true w/\(Op.equalIn (D+1) t .nilIface (.iface u x)).run P w = .ok false w/\(Op.equalIn (D+1) t (.iface u x) .nilIface).run P w = .ok false w:=by
 refine⟨?_,?_,?_⟩<;>simp[Op.equalIn,bw hu]
def GM {t : TypeId} {ps rs : Array TypeId} {vd : Bool} (hu : P.underlying t = some (.func ps rs vd)) (u : Fn) (x y : Array Value) (D : Nat) (w : World) :
    (Op.equalIn (D+1) t .nilFunc .nilFunc).run P w = .ok true w/\(Op.equalIn (D+1) t .nilFunc (.func u x y)).run P w = .ok false w/\(Op.equalIn (D+1) t (.func u x y) .nilFunc).run P w = .ok false w:=by
 refine⟨?_,?_,?_⟩<;>simp[Op.equalIn,bw hu]
def L8 {t : TypeId} {kt et : TypeId} (hu : P.underlying t = some (.map kt et)) (p : Option Nat) (D : Nat) (w : World) :
    (Op.equalIn (D+1) t (.map none) (.map p)).run P w = .ok p.isNone w/\(Op.equalIn (D+1) t (.map p) (.map none)).run P w = .ok p.isNone w:=by
 constructor
 ·simp[Op.equalIn,bw hu]
 ·cases p<;>simp[Op.equalIn,bw hu]
def FT {op : BinOp} {t : TypeId} {k : NK} {x y : AV} {a b : Value} {ox oy : Operand} {d : TypeDesc} (hop : op = .eql \/ op = .neq) (hR : Rel g w σ) (hu : P.underlying t = some d)
    (hd:Kn d=some k) (hc:nB ox=true\/nB oy=true) (hx:VR g w x a) (hy:VR g w y b)
    (hK : match (generalizing := false) rT k x y with
      | some r=>K (.bool (if op = .neq then !r else r)) σ
      | none=>False):cq P (do eqGuard op t ox oy a b;binOp op t a b) g w σ K:=by
 have fin:∀ r,(eqGuard op t ox oy a b).run P w = .ok () w->(Op.equalIn 10000 t a b).run P w = .ok r w->(∀ k n,a≠ .int k n)->(∀ k n,a≠ .float k n)->(∀ k n m,a≠ .complex k n m)->(∀ s,a≠ .string s) ->
  K (.bool (if op = .neq then !r else r)) σ->cq P (do eqGuard op t ox oy a b;binOp op t a b) g w σ K:=by
  intro r h1 h2 n1 n2 n3 n4 hk;refine cq.pure hR (v:= .bool (if op = .neq then !r else r)) ?_ (.bool _) hk;simp only[Sem.run_bind,h1,Result.andThen_ok]
  have e1:(binOp .eql t a b).run P w = .ok (.bool r) w:=by
   cases a<;>first
    | exact absurd rfl (n1 _ _)
    | exact absurd rfl (n2 _ _)
    | exact absurd rfl (n3 _ _ _)
    | exact absurd rfl (n4 _)
    | simp[binOp,Op.equal,Op.maxDepth,h2]
  have e2:(binOp .neq t a b).run P w = .ok (.bool (!r)) w:=by
   cases a<;>first
    | exact absurd rfl (n1 _ _)
    | exact absurd rfl (n2 _ _)
    | exact absurd rfl (n3 _ _ _)
    | exact absurd rfl (n4 _)
    | simp[binOp,Op.equal,Op.maxDepth,h2]
  rcases hop with rfl|rfl
  ·exact e1
  ·exact e2
 have rB:∀ (_:True),(∀ cs,a≠ .agg cs)->(eqGuard op t ox oy a b).run P w = .ok () w:=fun _ ha=>Wo hop hc a b ha w;cases d<;>simp only[Kn]at hd<;>(try cases hd)
 case pointer.refl elem =>
  have afj:∀ p:Option Addr,(Op.equalIn 10000 t (.pointer none) (.pointer p)).run P w = .ok p.isNone w:=fun p=>(L5 hu p 9999).1;have afk:∀ p:Option Addr,(Op.equalIn 10000 t (.pointer p) (.pointer none)).run P w = .ok p.isNone w:=fun p=>(L5 hu p 9999).2
  have ptr:∀ (z:AV) (v:Value) (r:Bool),VR g w z v->oP .p z=some r-> ∃ p,v = .pointer p/\p.isNone=r:=by
   intro z v r hz h;cases hz<;>simp only[oP]at h<;>(try cases h)
   case ref.refl h=>obtain⟨_,A,rfl,_⟩:=h;exact⟨_,rfl,rfl⟩
   case eL.refl=>exact⟨_,rfl,rfl⟩
   case fR.refl h=>obtain⟨_,_,A,rfl,_⟩:=h;exact⟨_,rfl,rfl⟩
   case p7.refl=>exact⟨_,rfl,rfl⟩
  simp only[rT]at hK;split at hK
  ·rename_i r hr;split at hr
   ·rename_i r' h1 h2;cases hr;obtain⟨p,rfl,hp⟩:=ptr _ _ _ hx h1;obtain⟨q,rfl,hq⟩:=ptr _ _ _ hy h2;have:p=none:=by simpa using hp
    subst this;exact fin _ (rB trivial (by simp)) (by rw[afj,hq]) (by simp) (by simp) (by simp) (by simp) hK
   ·rename_i h1 h2;cases hr;obtain⟨p,rfl,hp⟩:=ptr _ _ _ hx h1;obtain⟨q,rfl,hq⟩:=ptr _ _ _ hy h2;have:q=none:=by simpa using hq
    subst this;exact fin _ (rB trivial (by simp)) (by rw[afk,hp]) (by simp) (by simp) (by simp) (by simp) hK
   ·cases hr
  ·exact hK.elim
 case interface.refl ms =>
  have k8:∀ (z:AV) (v:Value) (r:Bool),VR g w z v->oP .i z=some r->(r=true/\v = .nilIface)\/(r=false/\ ∃ u x,v = .iface u x):=by
   intro z v r hz h;cases hz<;>simp only[oP]at h<;>(try cases h)
   case mF.refl=>exact .inl ⟨rfl,rfl⟩
   case k8.refl=>exact .inr ⟨rfl,_,_,rfl⟩
  simp only[rT]at hK;split at hK
  ·rename_i r hr;split at hr
   ·rename_i r' h1 h2;cases hr;rcases k8 _ _ _ hx h1 with⟨_,rfl⟩|⟨e,_⟩
    ·rcases k8 _ _ _ hy h2 with⟨rfl,rfl⟩|⟨rfl,u,v,rfl⟩
     ·exact fin true (rB trivial (by simp)) (Dm hu 0 .nilIface 9999 w).1 (by simp) (by simp) (by simp) (by simp) hK
     ·exact fin false (rB trivial (by simp)) (Dm hu u v 9999 w).2.1 (by simp) (by simp) (by simp) (by simp) hK
    ·cases e
   ·rename_i h1 h2;cases hr;rcases k8 _ _ _ hx h1 with⟨e,_⟩|⟨_,u,v,rfl⟩
    ·cases e
    ·rcases k8 _ _ _ hy h2 with⟨_,rfl⟩|⟨e,_⟩
     ·exact fin false (rB trivial (by simp)) (Dm hu u v 9999 w).2.2 (by simp) (by simp) (by simp) (by simp) hK
     ·cases e
   ·cases hr
  ·exact hK.elim
 case func.refl ps rs vd =>
  have fnk:∀ (z:AV) (v:Value) (r:Bool),VR g w z v->oP .f z=some r->(r=true/\v = .nilFunc)\/(r=false/\ ∃ u x y,v = .func u x y):=by
   intro z v r hz h;cases hz<;>simp only[oP]at h<;>(try cases h)
   case si.refl=>exact .inl ⟨rfl,rfl⟩
   case fn.refl=>exact .inr ⟨rfl,_,_,_,rfl⟩
  simp only[rT]at hK;split at hK
  ·rename_i r hr;split at hr
   ·rename_i r' h1 h2;cases hr;rcases fnk _ _ _ hx h1 with⟨_,rfl⟩|⟨e,_⟩
    ·rcases fnk _ _ _ hy h2 with⟨rfl,rfl⟩|⟨rfl,u,v,z,rfl⟩
     ·exact fin true (rB trivial (by simp)) (GM hu (.func 0) #[] #[] 9999 w).1 (by simp) (by simp) (by simp) (by simp) hK
     ·exact fin false (rB trivial (by simp)) (GM hu u v z 9999 w).2.1 (by simp) (by simp) (by simp) (by simp) hK
    ·cases e
   ·rename_i h1 h2;cases hr;rcases fnk _ _ _ hx h1 with⟨e,_⟩|⟨_,u,v,z,rfl⟩
    ·cases e
    ·rcases fnk _ _ _ hy h2 with⟨_,rfl⟩|⟨e,_⟩
     ·exact fin false (rB trivial (by simp)) (GM hu u v z 9999 w).2.2 (by simp) (by simp) (by simp) (by simp) hK
     ·cases e
   ·cases hr
  ·exact hK.elim
 case map.refl kt et =>
  have mpk:∀ (z:AV) (v:Value) (r:Bool),VR g w z v->oP .m z=some r-> ∃ p,v = .map p/\p.isNone=r:=by
   intro z v r hz h;cases hz<;>simp only[oP]at h<;>(try cases h)
   case j4.refl=>exact⟨_,rfl,rfl⟩
   case mp.refl h=>obtain⟨_,A,rfl,_⟩:=h;exact⟨_,rfl,rfl⟩
  simp only[rT]at hK;split at hK
  ·rename_i r hr;split at hr
   ·rename_i r' h1 h2;cases hr;obtain⟨p,rfl,hp⟩:=mpk _ _ _ hx h1;obtain⟨q,rfl,hq⟩:=mpk _ _ _ hy h2;have:p=none:=by simpa using hp
    subst this;exact fin _ (rB trivial (by simp)) (by rw[<-hq];exact(L8 hu q 9999 w).1) (by simp) (by simp) (by simp) (by simp) hK
   ·rename_i h1 h2;cases hr;obtain⟨p,rfl,hp⟩:=mpk _ _ _ hx h1;obtain⟨q,rfl,hq⟩:=mpk _ _ _ hy h2;have:q=none:=by simpa using hq
    subst this;exact fin _ (rB trivial (by simp)) (by rw[<-hp];exact(L8 hu p 9999 w).2) (by simp) (by simp) (by simp) (by simp) hK
   ·cases hr
  ·exact hK.elim
end
end Go.AM
namespace Go.AM
section
variable {P:Program} {g:aM} {w:World} {σ : ae} {K:AV->ae->Prop}
end
end Go.AM
namespace Go.AM
open Go.MapKept
def Rel.kill {g : aM} {w : World} {σ : ae} {l : Nat} {o : bE} (h : Rel g w σ) (hl : σ[l]? = some o) (ho : o.live = true) :
    Rel g w (σ.set l .dead)/\fN σ g w (σ.set l .dead) g w:=by
 have:=h.change (w':=w) (o':= .dead) hl ho (g.ver l) (g.base l) (g.cap l) (g.off l) (Nat.le_refl _) (fun _=>⟨rfl,rfl,rfl⟩) (Nat.le_refl _) rfl rfl rfl (fun _ _ _=>rfl) (fun b hb=> .inl hb) (fun _=>trivial);rwa[aM.H9]at this
section
variable {P:Program} {g:aM} {w:World} {σ : ae} {K:AV->ae->Prop}
def qa{σ : ae}{l:Nat}{o:bE}(h : σ[l]? = some o): σ.set l o = σ:=by
 apply List.ext_getElem?;intro k;by_cases e:k=l
 ·subst e;rw[fG (aQ.1 h).1];exact h.symm
 ·rw[bP (Ne.symm e)]
def GN{ok:Bool}{v:AV}{u:Value}{b:Bool}(hv:VR g w v u): VR g w (if ok then .bJ [v,.bool b]else v) (if ok then .tuple #[u,.bool b]else u):=by
 cases ok with
 | false=>simpa using hv
 | true =>
   refine .bJ _ _ rfl (fun i hi=>?_)
   match i,hi with
   | 0,_=>exact hv
   | 1,_=>exact .bool b
def Wp{x:AV}{v:Value}(hR:Rel g w σ)(hx:VR g w x v)(hK:w9 σ x K): cq P (pure v) g w σ K:=by
 unfold w9 at hK;split at hK
 ·exact .pure hR rfl hx hK
 ·exact .pure hR rfl hx hK
 ·rename_i el l m lo n;split at hK
  ·rename_i T bB xs hl;obtain⟨rfl,rfl,hn,hK⟩:=hK;cases hx with
   | own _ _ _ _ _ _ hO =>
   obtain⟨_,_,A,cap,rfl,h4⟩:=hO;obtain⟨kp,vg,hrow⟩:=hR.ok l _ hl;have hlen:((xs.drop lo).take n).length=n:=by simp;omega
   by_cases SR:n=0
   ·subst SR;rw[fF]at hK;obtain⟨r1,r2⟩:=hR.kill hl rfl;exact⟨_,w,_,_,_,rfl,r1,r2,.lO false bB A cap (fun h=>by cases h),hK⟩
   rcases hrow with⟨hx,_,_⟩|⟨b,vs,hb,hrow,hsz,hle,hc,_⟩
   ·subst hx;simp at hn;omega
   obtain⟨_,h6,h7⟩:=h4 kp.symm;have hlt:lo<g.cap l:=by omega
   have hA:=h7 hlt;rw[hb]at hA;simp only[fJ]at hA;subst hA
   have hidx:∀ i c,i<n->c<bB.sz->g.off l+(lo+i)*bB.sz+c<vs.size:=fun i c h1 h2=>by
    rw[hsz];have:(lo+i)*bB.sz+bB.sz<=g.cap l*bB.sz:=by rw[<-ei];exact bL _ (by omega)
    omega
   have hoff:∀ i c,g.off l+lo*bB.sz+(i*bB.sz+c)=g.off l+(lo+i)*bB.sz+c:=fun i c=>by rw[ep];omega
   have sn:∀ i,i<n->((xs.drop lo).take n).getD i .undef=xs.getD (lo+i) .undef:=fun i hi=>by
    simp[aB,List.getElem?_take,hi]
   obtain⟨r1,r2⟩:=hR.freeze hl rfl hb;refine⟨_,w,_,_,_,rfl,r1,r2,?_,hK⟩;have key:=VR.aG (g:=g.u6 b) (w:=w) false bB ((xs.drop lo).take n) b (g.off l+lo*bB.sz) cap (.inr rfl) (fun h=>by cases h) (by omega) (fun i h1=>?_) (fun i c h1 h2=>?_) (fun i c h1 h2=>?_)
   ·rw[hlen]at key;exact key
   ·rw[hlen]at h1;rw[sn i h1];exact vg (lo+i) (by omega)
   ·rw[hlen]at h1;rw[hoff,hrow.cell (hidx i c h1 h2)];rfl
   ·rw[hlen]at h1;rw[hoff,sn i h1]
    have e1:eT w ⟨b,g.off l+(lo+i)*bB.sz+c,none⟩=vs.getD (g.off l+(lo+i)*bB.sz+c) Go.undef:=by
     simp only[eT,hrow.cell (hidx i c h1 h2),bC]
    rw[e1];exact(hc (lo+i) c (by omega) h2).mono r2.mono
  ·exact hK.elim
 ·exact hK.elim
def Wq {T xt : TypeId} {d : TypeDesc} {ok : Bool} {zero x : AV} {a : Value} (hR : Rel g w σ) (hu : P.underlying T = some d) (hd : ∀ l, d ≠ .interface l) (hz : mJ P T = some zero) (hx : VR g w x a)
    (hK:w8 T ok zero x fun v=>K v σ):cq P (Instr.typeAssert a xt T ok) g w σ K:=by
 obtain⟨z,hz1,hz2⟩:=A6 hz w;unfold w8 at hK;cases hx<;>(try exact False.elim hK)
 case mF =>
  obtain⟨rfl,hK⟩:=hK;refine cq.pure hR (v:= .tuple #[z,.bool false]) ?_ (GN (ok:=true) (hz2 g w).1) hK;cases d<;>first|exact absurd rfl (hd _)|simp[Instr.typeAssert,bw hu,hz1]
 case k8 t y v h =>
  simp only at hK;split at hK
  ·rename_i e;subst e;refine cq.pure hR (v:=if ok then .tuple #[v,.bool true]else v) ?_ (GN h) hK;cases d<;>first|exact absurd rfl (hd _)|simp[Instr.typeAssert,bw hu]
  ·rename_i e;obtain⟨rfl,hK⟩:=hK;refine cq.pure hR (v:= .tuple #[z,.bool false]) ?_ (GN (ok:=true) (hz2 g w).1) hK;cases d<;>first|exact absurd rfl (hd _)|simp[Instr.typeAssert,bw hu,hz1,e]
end
