/- Part. -/
import Derived.Test.YtoldfccfpameeaaGreatDoorX01
import Derived.Laws.StructEq
import Derived.ChangeKeysEq
import Derived.IntWalk
import Derived.Lib.UnsafeStr
import Derived.Lib.Builder
import Derived.Laws.Externs
set_option linter.all false
namespace Go.AM
section
variable {P:Program} {g:aN} {w:World} {σ : ai} {K:AV->ai->Prop}
def jb{t:TypeId}{el:El}(h:kr P t=some el): ∃ i,P.info? t=some i/\mV P t=some el.ag/\i.size=el.sz/\(el.ag=false->el.sz=1)/\i.bytes<=24*(el.sz+1)/\el.sz<=1000/\ ∃ z,i.zero=some z/\z.cells.size=el.sz:=by
 unfold kr at h;split at h
 ·rename_i ag i h1 h2;split at h
  ·rename_i h3;cases h;simp only[aD,cN,beq_iff_eq,aM]at h3;obtain⟨⟨⟨h3,h4⟩,h5⟩,h6⟩:=h3;refine⟨i,h2,h1,rfl,fun(e:ag=false)=>by rw[e]at h3;simpa using h3,h4,h5,?_⟩;cases hz:i.zero with
   | none=>simp[hz]at h6
   | some z=>exact⟨z,rfl,by simpa[hz]using h6⟩
  ·cases h
 ·cases h
def RF {t : TypeId} {ag : Bool} {i : TypeInfo} {cs : List AV} {vs : Array Value} {off : Nat} (hA : mV P t = some ag) (hi : P.info? t = some i) (h1 : ag = false -> i.size = 1)
    (hl:cs.length=vs.size) (hs:cs.all AV.scalar=true) (h:∀ i,i<cs.length->VR g w (cs.getD i .undef) (vs.getD i Go.undef)) (ho:off+i.size<=cs.length) :
    ∃ v,(part t vs off).run P w = .ok v w/\VR g w (if ag then .agg ((cs.drop off).take i.size)else cs.getD off .undef) v:=by
 cases ag with
 | true =>
   refine⟨.agg (vs.extract off (off+i.size)),by simp[part,kR hA,ep hi],?_⟩;refine .agg _ _ (by simp;omega) (qf hs _ _) (fun j hj=>?_);have hj':j<i.size:=by simp at hj;omega
   rw[je hj'];have:=h (off+j) ae;have h2:off+j<vs.size:=ae;have h3:j<(vs.extract off (off+i.size)).size:=by simp;omega
   have h4:(vs.extract off (off+i.size)).getD j Go.undef=vs.getD (off+j) Go.undef:=by
    rw[<-eE (h:=h3),<-eE (h:=h2),Array.getElem_extract]
   rw[h4];exact this
 | false =>
   have h2:off<vs.size:=by have:=h1 rfl;omega
   refine⟨vs.getD off Go.undef,by simp[part,kR hA,h2],?_⟩;simpa using h off ae
def Uz {s : TypeId} {fs : Array Field} {f : Nat} {fi : Field} {ag : Bool} {i : TypeInfo} {x : AV} {a : Value} (hR : Rel g w σ) (hu : P.underlying s = some (.struct fs)) (hf : fs[f]? = some fi)
    (hA:mV P fi.type=some ag) (hi:P.info? fi.type=some i) (hx:VR g w x a)
    (hK:match (generalizing:=false) x with | .agg cs=>fi.offset+i.size<=cs.length/\(ag=false->i.size=1)/\K (if ag then .agg ((cs.drop fi.offset).take i.size)else cs.getD fi.offset .undef) σ | _=>False) :
    bX P (Instr.field s a f) g w σ K:=by
 cases hx<;>simp only at hK
 case agg cs vs hl hs h =>
  obtain⟨h1,h2,h3⟩:=hK;obtain⟨v,r1,r2⟩:=RF hA hi h2 hl hs h h1;exact bX.pure hR (by simp[Instr.field,bn hu,hf,asAgg,r1]) r2 h3
def UA {s : TypeId} {fs : Array Field} {f : Nat} {fi : Field} {i : TypeInfo} {x : AV} {a : Value} (hR : Rel g w σ) (hu : P.underlying s = some (.struct fs)) (hf : fs[f]? = some fi)
    (hi:P.info? fi.type=some i) (h0:i.size≠0) (hx:VR g w x a)
    (hK : match (generalizing := false) x with
      | .ref l o=>K (.ref l (o+fi.offset)) σ
      | .fh el y o=>K (.fh el y (o+fi.offset)) σ
      | .fG el l m j o=>K (.fG el l m j (o+fi.offset)) σ
      | _=>False):bX P (Instr.fieldAt s a f) g w σ K:=by
 have run:∀ A:Addr,(Instr.fieldAt s (.pointer (some A)) f).run P w = .ok (.pointer (some (A.add fi.offset))) w:=fun A=>by
  simp[Instr.fieldAt,bn hu,hf,Instr.sureAddr,fieldPlace,ep hi,h0]
 cases hx<;>simp only at hK
 case ref l o h =>
  obtain⟨h1,A,rfl,h2⟩:=h;refine bX.pure hR (run A) (.ref _ _ _ ⟨h1,_,rfl,fun e=>?_⟩) hK;obtain⟨h3,h4⟩:=h2 e;rw[h4,add_plain];exact⟨by rw[h4]at h3;exact h3,rfl⟩
 case fh el y o b o' hi' ft hc h =>
  refine bX.pure hR (run _) ?_ hK;rw[add_plain,dG];exact .fh el y _ b o' hi' ft hc h
 case fG el l m j o h =>
  obtain⟨h1,hm,A,rfl,h2⟩:=h;refine bX.pure hR (run A) (.fG _ _ _ _ _ _ ⟨h1,hm,_,rfl,fun e=>?_⟩) hK;obtain⟨h3,h4⟩:=h2 e;rw[h4,add_plain,dG];exact⟨by rw[h4]at h3;exact h3,rfl⟩
def K_ {t e : TypeId} {el : El} {A : Addr} {n cap : Nat} {k : IntKind} {i : Int} (hu : P.underlying t = some (.slice e)) (he : kr P e = some el) (h0 : 0 <= i) (h1 : i < n) :
    (Instr.indexAt t (.slice (some A) n cap) (.int k i)).run P w = .ok (.pointer (some (A.add (i.toNat*el.sz)))) w:=by
 obtain⟨fi,hi,_,hs,_⟩:=jb he;simp[Instr.indexAt,asIntOf,bn hu,h0,h1,ep hi,hs]
def Dd {t e : TypeId} {el : El} {A : Addr} {n : Nat} {k : IntKind} {i : Int} (hu : P.underlying t = some (.array n e)) (he : kr P e = some el) (h0 : 0 <= i) (h1 : i < n) :
    (Instr.indexAt t (.pointer (some A)) (.int k i)).run P w = .ok (.pointer (some (A.add (i.toNat*el.sz)))) w:=by
 obtain⟨fi,hi,_,hs,_⟩:=jb he;simp[Instr.indexAt,asIntOf,bn hu,h0,h1,ep hi,hs,Instr.sureAddr]
def RG {t e : TypeId} {el : El} {x y : AV} {a b : Value} (hR : Rel g w σ) (hu : P.underlying t = some (.slice e)) (he : kr P e = some el) (hx : VR g w x a) (hy : VR g w y b)
    (hK : match (generalizing := false) y with
      | .int _ k => match (generalizing := false) x with
        | .aR _ bD xs=>bD=el/\0<=k/\k<xs.length/\K (.fh el (xs.getD k.toNat .undef) 0) σ
        | .own bD l m o n => bD = el /\ 0 <= k /\ k < n /\ match σ[l]? with
          | some (.dn _ bN xs)=>bN=el/\m=xs.length/\K (.fG el l m (o+k.toNat) 0) σ
          | _=>False
        | _=>False
      | _=>False):bX P (Instr.indexAt t a b) g w σ K:=by
 cases hy<;>simp only at hK
 case int k i =>
  cases hx<;>simp only at hK
  case iT=>exact absurd (Int.lt_of_le_of_lt hK.2.1 hK.2.2.1) aQ
  case aR f bD xs b' off cap hi hf hx' ft hc h =>
   obtain⟨rfl,h0,h1,h2⟩:=hK;have h3:i.toNat<xs.length:=ae;refine bX.pure hR (K_ hu he h0 h1) ?_ h2;rw[add_plain];exact .fh bD _ 0 b' (off+i.toNat*bD.sz) hi (ft _ h3) (fun c mh=>by rw[dG];exact hc _ c h3 mh) (fun c mh=>by rw[dG];exact h _ c h3 mh)
  case own bD l m o n h =>
   obtain⟨rfl,h0,h1,h2⟩:=hK;obtain⟨q1,q2,A,cap,rfl,q3⟩:=h;split at h2
   ·rename_i bN xs hxs;obtain⟨rfl,rfl,h2⟩:=h2;obtain⟨o1,o2,o3⟩:=hR.ok l _ hxs;obtain⟨q4,q5,q6⟩:=q3 o1.symm;rcases o3 with⟨rfl,_,_⟩|⟨b,vs,b1,b2,b3,b4,b5⟩
    ·simp at q4;omega
    have q7:=q6 ae;rw[b1]at q7;simp only[dh]at q7;subst q7;refine bX.pure hR (K_ hu he h0 h1) (.fG _ _ _ _ _ _ ⟨q1,q2,_,rfl,fun e=>?_⟩) h2;rw[add_plain];exact⟨b1,by rw[cu,dG];rfl⟩
   exact h2.elim
def RH {t e : TypeId} {el : El} {n : Nat} {x y : AV} {a b : Value} (hR : Rel g w σ) (hu : P.underlying t = some (.array n e)) (he : kr P e = some el) (hx : VR g w x a) (hy : VR g w y b)
    (hK : match (generalizing := false) y with
      | .int _ k => match (generalizing := false) x with
        | .ref l o=>0<=k/\k<n/\K (.ref l (o+k.toNat*el.sz)) σ
        | .fh bD y o=>0<=k/\k<n/\K (.fh bD y (o+k.toNat*el.sz)) σ
        | .fG bD l m j o=>0<=k/\k<n/\K (.fG bD l m j (o+k.toNat*el.sz)) σ
        | _=>False
      | _=>False):bX P (Instr.indexAt t a b) g w σ K:=by
 cases hy<;>simp only at hK
 case int k i =>
  cases hx<;>simp only at hK
  case ref l o h =>
   obtain⟨h0,h1,h2⟩:=hK;obtain⟨q1,A,rfl,q2⟩:=h;refine bX.pure hR (Dd hu he h0 h1) (.ref _ _ _ ⟨q1,_,rfl,fun e=>?_⟩) h2;obtain⟨h3,h4⟩:=q2 e;rw[h4,add_plain];exact⟨by rw[h4]at h3;exact h3,rfl⟩
  case fh bD x' o b' o' hi' ft hc h =>
   obtain⟨h0,h1,h2⟩:=hK;refine bX.pure hR (Dd hu he h0 h1) ?_ h2;rw[add_plain,dG];exact .fh bD _ _ b' o' hi' ft hc h
  case fG bD l m j o h =>
   obtain⟨h0,h1,h2⟩:=hK;obtain⟨q1,qm,A,rfl,q2⟩:=h;refine bX.pure hR (Dd hu he h0 h1) (.fG _ _ _ _ _ _ ⟨q1,qm,_,rfl,fun e=>?_⟩) h2;obtain⟨h3,h4⟩:=q2 e;rw[h4,add_plain,dG];exact⟨by rw[h4]at h3;exact h3,rfl⟩
def XL {t e : TypeId} {el : El} {n : Nat} {x y : AV} {a b : Value} (hR : Rel g w σ) (hu : P.underlying t = some (.array n e)) (he : kr P e = some el) (hx : VR g w x a) (hy : VR g w y b)
    (hK : match (generalizing := false) x, y with
      | .agg cs, .int _ k => 0 <= k /\ k < n /\ (k.toNat * el.sz + el.sz <= cs.length) /\ (el.ag = false -> el.sz = 1) /\
        K (if el.ag then .agg ((cs.drop (k.toNat*el.sz)).take el.sz)else cs.getD (k.toNat*el.sz) .undef) σ
      | _,_=>False):bX P (Instr.index t a b) g w σ K:=by
 obtain⟨fi,hi,hA,hs,h1,_⟩:=jb he;cases hx<;>cases hy<;>simp only at hK
 case agg.int cs vs hl hsc h k i =>
  obtain⟨h0,h2,h3,_,h4⟩:=hK;obtain⟨v,r1,r2⟩:=RF (P:=P) (g:=g) (w:=w) (off:=i.toNat*el.sz) hA hi (fun e=>hs.trans (h1 e)) hl hsc h ae;rw[hs]at r2;exact bX.pure hR (by simp[Instr.index,asIntOf,bn hu,h0,h2,ep hi,hs,r1]) r2 h4
def oh{k:IntKind}{i:Int}{y:Nat}{code:BoundsCode}(h0:0<=i)(h1:i<=y): (Instr.sliceBound (.int k i) y code).run P w = .ok i.toNat w:=by
 simp[Instr.sliceBound,asIntOf,h0,h1]
def om(g:aN)(w:World)(x:Option AV)(v:Option Value): Prop :=
 match x,v with
 | none,none=>True
 | some a,some u=>VR g w a u
 | _,_=>False
def Z5 {t : TypeId} {x : AV} {a : Value} {lo hi : Option AV} {vl vh : Option Value} (hR : Rel g w σ) (hu : P.underlying t = some .string) (hx : VR g w x a) (hl : om g w lo vl) (hh : om g w hi vh)
    (hK : match (generalizing := false) x with
      | .str s=>bound hi s.length s.length fun h=>bound lo 0 h fun l=>K (.str ((s.drop l).take (h-l))) σ
      | _=>False):bX P (Instr.sliceAt t a vl vh none) g w σ K:=by
 cases hx<;>simp only at hK
 case str s =>
  have key:∀ (l h:Nat),l<=h->h<=s.length->(⟨s.toArray⟩:ByteArray).extract l h=⟨((s.drop l).take (h-l)).toArray⟩:=fun l h h1 h2=>by
   apply ByteArray.ext;simp[ByteArray.data_extract]
  have hs:(⟨s.toArray⟩:ByteArray).size=s.length:=by simp[ByteArray.size]
  obtain⟨h,hb,kb⟩:∃ h:Nat,h<=s.length/\(match vh with|some v=>Instr.sliceBound v s.length .sliceAlen|none=>Pure.pure s.length:Sem Nat).run P w = .ok h w/\bound lo 0 h fun l=>K (.str ((s.drop l).take (h-l))) σ:=by
   cases hi with
   | none => cases vh with
     | none=>exact⟨s.length,bg _,rfl,hK⟩
     | some v=>exact hh.elim
   | some u => cases vh with
     | none=>exact hh.elim
     | some v =>
       have La:VR g w u v:=hh;cases La<;>simp only[bound]at hK
       case int k i=>exact⟨i.toNat,ae,oh hK.1 hK.2.1,hK.2.2⟩
  obtain⟨kb1,wV⟩:=kb
  obtain⟨l,lb,r1,r2⟩:∃ l:Nat,l<=h/\(match vl with|some v=>Instr.sliceBound v h .sliceB|none=>Pure.pure 0:Sem Nat).run P w = .ok l w/\K (.str ((s.drop l).take (h-l))) σ:=by
   cases lo with
   | none => cases vl with
     | none=>exact⟨0,ew _,rfl,wV⟩
     | some v=>exact hl.elim
   | some u => cases vl with
     | none=>exact hl.elim
     | some v =>
       have hl':VR g w u v:=hl;cases hl'<;>simp only[bound]at wV
       case int k i=>exact⟨i.toNat,ae,oh wV.1 wV.2.1,wV.2.2⟩
  refine bX.pure hR (v:= .string ⟨((s.drop l).take (h-l)).toArray⟩) ?_ (.str _) r2;rw[<-key l h lb hb];cases vh<;>cases vl<;>simp_all[Instr.sliceAt,bn hu,Instr.slice,Instr.sliceBounds]
end
section
variable {P:Program} {g:aN} {w:World} {σ : ai} {K:AV->ai->Prop}
def yl {lo hi : Option AV} {vl vh : Option Value} {len cap : Nat} {K : Nat -> Nat -> Prop} (hl : om g w lo vl) (hh : om g w hi vh) (hlc : len <= cap)
    (hK:bound hi len len fun h=>bound lo 0 h fun l=>K l h) :
    ∃ l h:Nat,l<=h/\h<=len/\(Instr.sliceBounds true len cap vl vh none).run P w = .ok (l,h,cap) w/\K l h:=by
 obtain⟨h,hb,kb1,wV⟩:∃ h:Nat,h<=len/\(match vh with|some v=>Instr.sliceBound v cap .sliceAcap|none=>Pure.pure len:Sem Nat).run P w = .ok h w/\bound lo 0 h fun l=>K l h:=by
  cases hi with
  | none => cases vh with
    | none=>exact⟨len,bg _,rfl,hK⟩
    | some v=>exact hh.elim
  | some u => cases vh with
    | none=>exact hh.elim
    | some v =>
      have La:VR g w u v:=hh;cases La<;>simp only[bound]at hK
      case int k i=>exact⟨i.toNat,ae,oh hK.1 ae,hK.2.2⟩
 obtain⟨l,lb,r1,r2⟩:∃ l:Nat,l<=h/\(match vl with|some v=>Instr.sliceBound v h .sliceB|none=>Pure.pure 0:Sem Nat).run P w = .ok l w/\K l h:=by
  cases lo with
  | none => cases vl with
    | none=>exact⟨0,ew _,rfl,wV⟩
    | some v=>exact hl.elim
  | some u => cases vl with
    | none=>exact hl.elim
    | some v =>
      have hl':VR g w u v:=hl;cases hl'<;>simp only[bound]at wV
      case int k i=>exact⟨i.toNat,ae,oh wV.1 wV.2.1,wV.2.2⟩
 refine⟨l,h,lb,hb,?_,r2⟩;cases vh<;>cases vl<;>simp_all[Instr.sliceBounds]
def Z6 {t e : TypeId} {el : El} {x : AV} {a : Value} {lo hi : Option AV} {vl vh : Option Value} (hR : Rel g w σ) (hu : P.underlying t = some (.slice e)) (he : kr P e = some el)
    (hx:VR g w x a) (hl:om g w lo vl) (hh:om g w hi vh)
    (hK : match (generalizing := false) x with
      | .aV=>bound hi 0 0 fun h=>bound lo 0 h fun _=>K .aV σ
      | .aR _ bD xs=>bD=el/\bound hi xs.length xs.length fun h=>bound lo 0 h fun l=>K (.aR false el ((xs.drop l).take (h-l))) σ
      | .own bD l m o n => bD = el /\ match σ[l]? with
        | some (.dn _ bN xs)=>bN=el/\m=xs.length/\o+n<=m/\bound hi n n fun h=>bound lo 0 h fun k=>K (.own el l m (o+k) (h-k)) σ
        | _=>False
      | _=>False):bX P (Instr.sliceAt t a vl vh none) g w σ K:=by
 obtain⟨fi,hi',_,hs,_⟩:=jb he
 have run:∀ (A:Option Addr) (len cap l h:Nat),(Instr.sliceBounds true len cap vl vh none).run P w = .ok (l,h,cap) w ->
  (Instr.sliceAt t (.slice A len cap) vl vh none).run P w = .ok (.slice (if cap=l then A else A.map (·.add (l*el.sz))) (h-l) (cap-l)) w:=fun A len cap l h hb=>by
  simp only[Instr.sliceAt,Sem.run_bind,bn hu,Result.andThen_ok,Instr.slice,hb,ep hi',hs,Sem.run_pure]
 cases hx<;>simp only at hK
 case aV =>
  obtain⟨l,h,q1,q2,q3,q4⟩:=yl (P:=P) (cap:=0) hl hh (bg _) hK;have:h=0/\l=0:=ae;obtain⟨rfl,rfl⟩:=this;refine bX.pure hR (run none 0 0 0 0 q3) ?_ q4;simpa using VR.aV
 case iT f bD b cap hf =>
  obtain⟨rfl,hK⟩:=hK;obtain⟨l,h,q1,q2,q3,q4⟩:=yl (P:=P) (cap:=cap) hl hh (ew _) hK;have:h=0/\l=0:=by simp at q2;omega
  obtain⟨rfl,rfl⟩:=this;refine bX.pure hR (run b 0 cap 0 0 q3) ?_ q4;simpa using VR.iT false _ _ cap aQ
 case aR f bD xs b off cap Fq hf Ad ft hc h =>
  obtain⟨rfl,hK⟩:=hK;obtain⟨l,h',q1,q2,q3,q4⟩:=yl (P:=P) (cap:=cap) hl hh Ad hK;refine bX.pure hR (run _ _ _ _ _ q3) ?_ q4;by_cases e:h'=l
  ·subst e;simpa using VR.iT false _ _ (cap-h') aQ
  have hlt:l<h':=ae;rw[aj ae];simp only[dh,add_plain];have hlen:((xs.drop l).take (h'-l)).length=h'-l:=by simp;omega
  have qL:∀ i,i<h'-l->((xs.drop l).take (h'-l)).getD i .undef=xs.getD (l+i) .undef:=fun i hi=>je hi;have hoff:∀ i c,off+l*bD.sz+(i*bD.sz+c)=off+((l+i)*bD.sz+c):=fun i c=>by rw[cu];omega
  have:=VR.aR (g:=g) (w:=w) false bD ((xs.drop l).take (h'-l)) b (off+l*bD.sz) (cap-l) Fq aQ (by rw[hlen];omega)
   (fun i hi=>by rw[hlen]at hi;rw[qL i hi];exact ft _ ae)
   (fun i c hi iL=>by rw[hlen]at hi;rw[hoff];exact hc _ c ae iL)
   (fun i c hi iL=>by rw[hlen]at hi;rw[qL i hi,hoff];exact h _ c ae iL)
  rwa[hlen]at this
 case own bD l m o n h =>
  obtain⟨rfl,hK⟩:=hK;obtain⟨q1,q2,A,cap,rfl,q3⟩:=h;split at hK
  ·rename_i bN xs hxs;obtain⟨rfl,rfl,um,hK⟩:=hK;obtain⟨o1,o2,o3⟩:=hR.ok l _ hxs;obtain⟨q4,q5,q6⟩:=q3 o1.symm
   have hcap:xs.length<=g.cap l:=by
    rcases o3 with⟨rfl,_,_⟩|⟨b,vs,b1,b2,b3,b4,b5⟩
    ·exact ew _
    exact b4
   obtain⟨k,h',p1,p2,p3,p4⟩:=yl (P:=P) (cap:=cap) hl hh ae hK;refine bX.pure hR (run _ _ _ _ _ p3) (.own _ _ _ _ _ _ ⟨q1,q2,_,_,rfl,fun e=>⟨ae,ae,fun hlt=>?_⟩⟩) p4;rw[aj ae,q6 ae];cases g.base l with
   | none=>rfl
   | some b=>simp[add_plain,cu,dG]
  exact hK.elim
def UB {x : AV} {a : Value} {o : Oper} {y : Operand} {ac : Act} (ho : o.op = .nilCheck y) (ha : ac.eval y = a) (hR : Rel g w σ) (hx : VR g w x a)
    (hK : match (generalizing := false) x with
      | .ref .. | .fh .. | .fG .. | .kZ .. | .fn (.func _) _ _ | .qV _=>K x σ
      | _=>False) :
    ∃ v w' g' av σ',(execOp ac.eval o).run P w = .ok (.value v) w'/\Rel g' w' σ'/\gE σ g w σ' g' w'/\VR g' w' av v/\K av σ':=by
 have fin:(execOp ac.eval o).run P w = .ok (.value a) w->K x σ-> ∃ v w' g' av σ',(execOp ac.eval o).run P w = .ok (.value v) w'/\Rel g' w' σ'/\gE σ g w σ' g' w'/\VR g' w' av v/\K av σ' :=
  fun h hk=>⟨a,w,g,x,σ,h,hR,.refl _ _ _,hx,hk⟩
 cases x<;>(try exact False.elim hK)
 case ref l off =>
  refine fin ?_ hK;cases hx with|ref _ _ _ h=>obtain⟨_,A,rfl,_⟩:=h;simp[execOp,ho,ha]
 case fh el x off =>
  refine fin ?_ hK;cases hx;simp[execOp,ho,ha]
 case fG el l m i off =>
  refine fin ?_ hK;cases hx with|fG _ _ _ _ _ _ h=>obtain⟨_,_,A,rfl,_⟩:=h;simp[execOp,ho,ha]
 case kZ t v =>
  refine fin ?_ hK;cases hx;simp[execOp,ho,ha]
 case qV l =>
  refine fin ?_ hK;cases hx with|qV _ _ h=>obtain⟨_,A,rfl,_⟩:=h;simp[execOp,ho,ha]
 case fn f first cap =>
  cases f<;>(try exact False.elim hK)
  case func n =>
   refine fin ?_ hK;cases hx;simp[execOp,ho,ha]
def UC {t : TypeId} {d : TypeDesc} {x : AV} {a : Value} (hR : Rel g w σ) (hu : P.underlying t = some d) (hd : ∀ ms, d ≠ .interface ms) (hx : VR g w x a) (hK : K (.kZ t x) σ) :
    bX P (Instr.makeInterface t a) g w σ K:=by
 refine bX.pure hR ?_ (.kZ t x a hx) hK;cases d<;>first|(simp[Instr.makeInterface,bn hu];done)|exact absurd rfl (hd _)
def XM {ats : Array TypeId} {t : TypeId} {r : TypeId} {x : AV} {a : Value} (hR : Rel g w σ) (ht : ats[0]? = some t) (hu : P.underlying t = some .string) (hx : VR g w x a)
    (hK : match (generalizing := false) x with
      | .str s=>K (.int .i64 s.length) σ
      | _=>False):bX P (Builtin.len_ ats r #[a]) g w σ K:=by
 cases hx<;>simp only at hK
 case str s=>exact bX.pure hR (v:= .int .i64 s.length) (by
  have hs:(⟨s.toArray⟩:ByteArray).size=s.length:=List.size_toArray;unfold Builtin.len_;simp[ht,bn hu,goInt,hs]) (.int _ _) hK
def XO {ats : Array TypeId} {t e : TypeId} {r : TypeId} {x : AV} {a : Value} (hR : Rel g w σ) (ht : ats[0]? = some t) (hu : P.underlying t = some (.slice e)) (hx : VR g w x a)
    (hK : match (generalizing := false) x with
      | .aV=>K (.int .i64 0) σ
      | .aR _ _ xs=>K (.int .i64 xs.length) σ
      | .own _ _ _ _ n=>K (.int .i64 n) σ
      | _=>False):bX P (Builtin.len_ ats r #[a]) g w σ K:=by
 have hsl:∀ A n c,a = .slice A n c->K (.int .i64 n) σ->bX P (Builtin.len_ ats r #[a]) g w σ K:=fun A n c ha hk=>by
  subst ha;exact bX.pure hR (v:= .int .i64 n) (by unfold Builtin.len_;simp[ht,bn hu,goInt]) (.int _ _) hk
 cases hx<;>simp only at hK
 case aV=>exact hsl _ _ _ rfl hK
 case iT=>exact hsl _ _ _ rfl hK
 case aR=>exact hsl _ _ _ rfl hK
 case own h=>obtain⟨_,_,A,cap,rfl,_⟩:=h;exact hsl _ _ _ rfl hK
def RI (op : Bool) : ∀ (xs : List AV) (vs : List Value) (x : AV) (v : Value), VR g w x v -> xs.length = vs.length -> (∀ i, i < xs.length -> VR g w (xs.getD i .undef) (vs.getD i Go.undef)) ->
    tH op x xs (fun v=>K v σ)-> ∃ av u,(vs.foldlM (if op then Builtin.min2 else Builtin.max2) v).run P w = .ok u w/\VR g w av u/\K av σ:=by
 intro xs
 induction xs with
 | nil =>
   intro vs x v hx hl _ hK;cases vs with
   | nil=>exact⟨x,v,rfl,hx,hK⟩
   | cons _ _=>cases hl
 | cons y ys ih =>
   intro vs x v hx hl h hK;cases vs with
   | nil=>cases hl
   | cons u us =>
     have hy:VR g w y u:=by simpa using h 0 aQ
     simp only[tH]at hK;cases hx<;>simp only[Fg]at hK;cases hy<;>simp only at hK;rename_i k a k' b
     obtain⟨av,u',r1,r2,r3⟩:=ih us _ (.int k (if op then(if b<a then b else a)else (if b>a then b else a))) (.int _ _) (by simpa using hl)
      (fun i hi=>by simpa using h (i+1) (by simpa using hi)) hK
     refine⟨av,u',?_,r2,r3⟩;cases op<;>simpa[List.foldlM_cons,Builtin.min2,Builtin.max2]using r1
def Z7 {ats : Array TypeId} {r : TypeId} {x : AV} {xs : List AV} {v : Value} {vs : List Value} (hR : Rel g w σ) (hx : VR g w x v) (hl : xs.length = vs.length)
    (h:∀ i,i<xs.length->VR g w (xs.getD i .undef) (vs.getD i Go.undef)) (hK:tH true x xs fun v=>K v σ):bX P (Builtin.min_ ats r (v::vs).toArray) g w σ K:=by
 obtain⟨av,u,r1,r2,r3⟩:=RI (P:=P) true xs vs x v hx hl h hK;exact bX.pure hR (by simpa[Builtin.min_]using r1) r2 r3
def Z8 {ats : Array TypeId} {r : TypeId} {x : AV} {xs : List AV} {v : Value} {vs : List Value} (hR : Rel g w σ) (hx : VR g w x v) (hl : xs.length = vs.length)
    (h:∀ i,i<xs.length->VR g w (xs.getD i .undef) (vs.getD i Go.undef)) (hK:tH false x xs fun v=>K v σ):bX P (Builtin.max_ ats r (v::vs).toArray) g w σ K:=by
 obtain⟨av,u,r1,r2,r3⟩:=RI (P:=P) false xs vs x v hx hl h hK;exact bX.pure hR (by simpa[Builtin.max_]using r1) r2 r3
end
section
variable {P:Program} {g:aN} {w:World} {σ : ai} {K:AV->ai->Prop}
def OI {k : Kd} {a b : AV} {r : Bool} (h : Rx k a b = some r) {v u : Value} (hv : VR g w a v) (hu : VR g w b u) :
    (k = .b/\ ∃ x y,v = .bool x/\u = .bool y/\r=(x==y))\/(k = .i/\ ∃ q x y,v = .int q x/\u = .int q y/\r=(x==y)) \/
    (k = .s/\ ∃ x y:List UInt8,v = .string ⟨x.toArray⟩/\u = .string ⟨y.toArray⟩/\r=(x==y)):=by
 cases k<;>cases hv<;>cases hu<;>simp only[Rx]at h<;>(try cases h)
 case b.bool.bool.refl x y=>exact .inl ⟨rfl,x,y,rfl,rfl,rfl⟩
 case i.int.int q x q' y =>
  split at h
  ·rename_i e;subst e;cases h;exact .inr (.inl ⟨rfl,q,x,y,rfl,rfl,rfl⟩)
  ·cases h
 case s.str.str.refl x y=>exact .inr (.inr ⟨rfl,x,y,rfl,rfl,rfl⟩)
def Fs {k1 k2 : List Kd} {az bs : List AV} {r : Bool} (h : jc (k1 ++ k2) az bs = some r) :
    ∃ r1 r2,jc k1 (az.take k1.length) (bs.take k1.length)=some r1/\jc k2 (az.drop k1.length) (bs.drop k1.length)=some r2/\r=(r1 && r2):=by
 induction k1 generalizing az bs r with
 | nil=>exact⟨true,r,by simp[jc],by simpa using h,aQ⟩
 | cons k ks ih =>
   cases az with
   | nil=>cases bs<;>simp[jc]at h
   | cons a az =>
     cases bs with
     | nil=>simp[jc]at h
     | cons b bs =>
       simp only[bK,jc]at h;split at h
       ·rename_i x y h1 h2;cases h;obtain⟨r1,r2,i1,i2,rfl⟩:=ih h2;exact⟨x && r1,r2,by simp[jc,h1,i1],by simpa using i2,by simp[Bool.and_assoc]⟩
       ·cases h
def acJ {k : Kd} {a b : AV} {r : Bool} {t : TypeId} {d : TypeDesc} (hu : P.underlying t = some d) (hd : (d = .bool /\ k = .b) \/ ((∃ q, d = .int q) /\ k = .i) \/ (d = .string /\ k = .s)) {v u : Value}
    (h:jc [k] [a] [b]=some r) (hv:VR g w a v) (hv':VR g w b u) (D:Nat):(Op.equalIn (D+1) t v u).run P w = .ok r w:=by
 simp only[jc]at h;split at h
 ·rename_i x y h1 h2;cases h2;cases h;rcases OI h1 hv hv' with⟨rfl,x',y',rfl,rfl,rfl⟩|⟨rfl,q,x',y',rfl,rfl,rfl⟩|⟨rfl,x',y',rfl,rfl,rfl⟩
  ·rcases hd with⟨rfl,_⟩|⟨_,e⟩|⟨_,e⟩
   ·simp[run_equalIn_bool' w D t x' y' hu]
   ·cases e
   ·cases e
  ·rcases hd with⟨_,e⟩|⟨⟨q',rfl⟩,_⟩|⟨_,e⟩
   ·cases e
   ·simp[run_equalIn_int w D t q q' x' y' hu]
   ·cases e
  rcases hd with⟨_,e⟩|⟨_,e⟩|⟨rfl,_⟩
  ·cases e
  ·cases e
  simp[run_equalIn_string w D t _ _ hu,RC]
 ·cases h
def acK : ∀ (d : Nat) (t : TypeId) (ks : List Kd) (D : Nat) (xs ys : Array Value) (o : Nat) (az bs : List AV) (r : Bool), pE P d t = some ks -> d <= D ->
    (∃ i,P.info? t=some i/\i.size=ks.length)->az.length=ks.length->bs.length=ks.length->o+ks.length<=xs.size->o+ks.length<=ys.size ->
    (∀ i,i<ks.length->VR g w (az.getD i .undef) (xs.getD (o+i) Go.undef))->(∀ i,i<ks.length->VR g w (bs.getD i .undef) (ys.getD (o+i) Go.undef))->jc ks az bs=some r ->
    ∃ v u,(part t xs o).run P w = .ok v w/\(part t ys o).run P w = .ok u w/\(Op.equalIn D t v u).run P w = .ok r w:=by
 intro d
 induction d with
 | zero=>intro t ks D xs ys o az bs r h;cases h
 | succ d ih =>
   intro t ks D xs ys o az bs r h hD hinfo la lb hx hy ha hb hk;obtain⟨ti,Ae,hsz⟩:=hinfo;obtain⟨D,rfl⟩:∃ D',D=D'+1:=⟨D-1,ae⟩
   have acL:∀ (k:Kd) (dd:TypeDesc),P.underlying t=some dd->mV P t=some false->ks=[k]->((dd = .bool/\k = .b)\/((∃ q,dd = .int q)/\k = .i)\/(dd = .string/\k = .s)) ->
    ∃ v u,(part t xs o).run P w = .ok v w/\(part t ys o).run P w = .ok u w/\(Op.equalIn (D+1) t v u).run P w = .ok r w:=by
    intro k dd hu hA hks hd;subst hks;simp only[List.length_singleton]at *
    match az,bs,la,lb with
    | [a], [b], _, _ =>
      have h1:o<xs.size:=ae;have h2:o<ys.size:=ae;refine⟨xs.getD o Go.undef,ys.getD o Go.undef,by simp[part,kR hA,h1],by simp[part,kR hA,h2],?_⟩;exact acJ hu hd hk (by simpa using ha 0 ae) (by simpa using hb 0 ae) D
   simp only[pE]at h;split at h
   ·rename_i hu;cases h;exact acL .b _ hu (by simp[mV,hu]) rfl (.inl ⟨rfl,rfl⟩)
   ·rename_i q hu;cases h;exact acL .i _ hu (by simp[mV,hu]) rfl (.inr (.inl ⟨⟨q,rfl⟩,rfl⟩))
   ·rename_i hu;cases h;exact acL .s _ hu (by simp[mV,hu]) rfl (.inr (.inr ⟨rfl,rfl⟩))
   ·rename_i fs hu;split at h
    ·cases h
    rename_i hst;have hA:mV P t=some true:=by simp[mV,hu]
    refine⟨.agg (xs.extract o (o+ti.size)),.agg (ys.extract o (o+ti.size)),by simp[part,kR hA,ep Ae],by simp[part,kR hA,ep Ae],?_⟩;have hfo:P.fieldsOf t=fs:=by simp[Program.fieldsOf,hu]
    rw[run_equalIn_struct w D t _ _ (by rw[hfo];exact hu) (by simpa using hst),hfo]
    have key:∀ (l:List Field) (off:Nat) (ks:List Kd) (az bs:List AV) (r:Bool) (X Y:Array Value),wF P (pE P d) off l=some ks->az.length=ks.length->bs.length=ks.length ->
     off+ks.length<=X.size->off+ks.length<=Y.size->(∀ i,i<ks.length->VR g w (az.getD i .undef) (X.getD (off+i) Go.undef))->(∀ i,i<ks.length->VR g w (bs.getD i .undef) (Y.getD (off+i) Go.undef)) ->
     jc ks az bs=some r->(Op.eqFields D X Y l).run P w = .ok r w:=by
     intro l
     induction l with
     | nil =>
       intro off ks az bs r X Y h la lb _ _ _ _ hk;cases h;cases az<;>cases bs<;>simp[jc]at hk;subst hk;rfl
     | cons f fs ihl =>
       intro off ks az bs r X Y h la lb hx hy ha hb hk;simp only[wF]at h;split at h
       ·cases h
       rename_i hne;simp only[cN,beq_iff_eq,bne_iff_ne,not_or,Decidable.not_not]at hne;obtain⟨hn,rfl⟩:=hne;split at h
       ·rename_i k1 fi Lb hfi;split at h
        ·rename_i hs1;simp only[bj]at h;obtain⟨k2,kI,rfl⟩:=h;simp only[aC]at *;obtain⟨r1,r2,e1,e2,rfl⟩:=Fs hk
         obtain⟨v,u,p1,p2,p3⟩:=ih f.type k1 D X Y f.offset (az.take k1.length) (bs.take k1.length) r1 Lb ae ⟨fi,hfi,by simpa using hs1⟩ (by simp;omega) (by simp;omega) ae ae
          (fun i hi=>by have:=ha i ae;simpa[List.getElem?_take,hi]using this) (fun i hi=>by have:=hb i ae;simpa[List.getElem?_take,hi]using this) e1
         have Z9:=ihl (f.offset+k1.length) k2 (az.drop k1.length) (bs.drop k1.length) r2 X Y kI (by simp;omega) (by simp;omega) ae ae
          (fun i hi=>by have:=ha (k1.length+i) ae;simpa[dG]using this) (fun i hi=>by have:=hb (k1.length+i) ae;simpa[dG]using this) e2
         simp only [Op.eqFields, au (show f.name ≠ "_" from hn), Sem.run_bind, p1, p2, p3, Result.andThen_ok]
         cases r1
         ·simp
         simpa using Z9
        ·cases h
       ·cases h
    refine key fs.toList 0 ks az bs r _ _ h la lb (by simp;omega) (by simp;omega) (fun i hi=>?_) (fun i hi=>?_) hk
    ·have h3:i<(xs.extract o (o+ti.size)).size:=by simp;omega
     have h4:o+i<xs.size:=ae;have:=ha i hi;rw[<-eE (h:=h4)]at this;rw[bL,<-eE (h:=h3),Array.getElem_extract];exact this
    have h3:i<(ys.extract o (o+ti.size)).size:=by simp;omega
    have h4:o+i<ys.size:=ae;have:=hb i hi;rw[<-eE (h:=h4)]at this;rw[bL,<-eE (h:=h3),Array.getElem_extract];exact this
   ·rename_i n e hu;split at h
    ·rename_i k1 fi Lb hfi;split at h
     ·rename_i hs1;cases h;simp only[aD,beq_iff_eq]at hs1;obtain⟨hs1,VZ⟩:=hs1;have hA:mV P t=some true:=by simp[mV,hu]
      refine⟨.agg (xs.extract o (o+ti.size)),.agg (ys.extract o (o+ti.size)),by simp[part,kR hA,ep Ae],by simp[part,kR hA,ep Ae],?_⟩;rw[Go.run_equalIn_array w D _ _ hu hfi,VZ]
      have key:∀ (m j:Nat) (az bs:List AV) (r:Bool) (X Y:Array Value),az.length=m*k1.length->bs.length=m*k1.length ->
       (j+m)*k1.length<=X.size->(j+m)*k1.length<=Y.size->(∀ i,i<m*k1.length->VR g w (az.getD i .undef) (X.getD (j*k1.length+i) Go.undef))->(∀ i,i<m*k1.length->VR g w (bs.getD i .undef) (Y.getD (j*k1.length+i) Go.undef)) ->
       jc (List.replicate m k1).flatten az bs=some r->(Go.Op.eqItems D e k1.length X Y (List.range' j m)).run P w = .ok r w:=by
       intro m
       induction m with
       | zero =>
         intro j az bs r X Y la lb _ _ _ _ hk;rw[Nat.zero_mul]at la lb;rw[eP la,eP lb]at hk;simp[jc]at hk;subst hk;rfl
       | succ m ihm =>
         intro j az bs r X Y la lb hx hy ha hb hk;rw[List.replicate_succ,List.flatten_cons]at hk;rw[eH]at la lb;have hjm:(j+(m+1))*k1.length=j*k1.length+m*k1.length+k1.length:=by rw[cu,eH];omega
         have OJ:(j+1)*k1.length=j*k1.length+k1.length:=eH _ _;have hj2:(j+1+m)*k1.length=j*k1.length+k1.length+m*k1.length:=by rw[cu,OJ]
         rw[hjm]at hx hy;have hmm:(m+1)*k1.length=m*k1.length+k1.length:=eH _ _;rw[hmm]at ha hb;obtain⟨r1,r2,e1,e2,rfl⟩:=Fs hk
         obtain⟨v,u,p1,p2,p3⟩:=ih e k1 D X Y (j*k1.length) (az.take k1.length) (bs.take k1.length) r1 Lb ae ⟨fi,hfi,hs1⟩ (by simp;omega) (by simp;omega) ae ae
          (fun i hi=>by have:=ha i ae;simpa[List.getElem?_take,hi]using this) (fun i hi=>by have:=hb i ae;simpa[List.getElem?_take,hi]using this) e1
         have Z9:=ihm (j+1) (az.drop k1.length) (bs.drop k1.length) r2 X Y (by simp;omega) (by simp;omega) ae ae
          (fun i hi=>by have:=ha (k1.length+i) ae;rw[OJ];simpa[dG]using this) (fun i hi=>by have:=hb (k1.length+i) ae;rw[OJ];simpa[dG]using this) e2
         rw[List.range'_succ];simp only[Go.Op.eqItems,Sem.run_bind,p1,p2,p3,Result.andThen_ok];cases r1
         ·simp
         simpa using Z9
      have hlen:(List.replicate n k1).flatten.length=n*k1.length:=aQ;rw[hlen]at hsz la lb hx hy;rw[jt];refine key n 0 az bs r _ _ la lb (by simp;omega) (by simp;omega) (fun i hi=>?_) (fun i hi=>?_) hk
      ·have h3:i<(xs.extract o (o+ti.size)).size:=by simp;omega
       have h4:o+i<xs.size:=ae;have:=ha i (by rw[hlen];exact hi);rw[<-eE (h:=h4)]at this;rw[Nat.zero_mul,bL,<-eE (h:=h3),Array.getElem_extract];exact this
      have h3:i<(ys.extract o (o+ti.size)).size:=by simp;omega
      have h4:o+i<ys.size:=ae;have:=hb i (by rw[hlen];exact hi);rw[<-eE (h:=h4)]at this;rw[Nat.zero_mul,bL,<-eE (h:=h3),Array.getElem_extract];exact this
     ·cases h
    ·cases h
   ·cases h
end
section
variable {P:Program} {g:aN} {w:World} {σ : ai} {K:AV->ai->Prop}
def OL {op : BinOp} {t : TypeId} {ks : List Kd} {ag : Bool} {i : TypeInfo} {x y : AV} {a b : Value} {ox oy : Operand} (hop : op = .eql \/ op = .neq) (hR : Rel g w σ) (hf : pE P 12 t = some ks) (hA : mV P t = some ag) (hi : P.info? t = some i)
    (hs:i.size=ks.length) (hg:ag=true->P.eqGuardType P.depth t=false) (hx:VR g w x a) (hy:VR g w y b)
    (hK : match (generalizing := false) (if ag then (match (generalizing := false) x, y with | .agg az, .agg bs => jc ks az bs | _, _ => none) else jc ks [x] [y]) with
      | some r=>K (.bool (if op = .neq then !r else r)) σ
      | none=>False):bX P (do eqGuard op t ox oy a b;binOp op t a b) g w σ K:=by
 have aho:∀ (ks:List Kd) (az bs:List AV) (r:Bool),jc ks az bs=some r->az.length=ks.length/\bs.length=ks.length:=by
  intro ks
  induction ks with
  | nil=>intro az bs r h;cases az<;>cases bs<;>simp[jc]at h |-
  | cons k ks ih =>
    intro az bs r h;cases az<;>cases bs<;>simp only[jc]at h<;>(try cases h);split at h
    ·rename_i h1 h2;have:=ih _ _ _ h2;simp[this.1,this.2]
    ·cases h
 cases ag with
 | true =>
   simp only[if_true]at hK;cases hx<;>(try exact False.elim hK);cases hy<;>(try exact False.elim hK)
   case agg.agg az vs hl hsc h bs us hl' acM h' =>
    simp only at hK;split at hK
    ·rename_i r hr;obtain⟨l1,l2⟩:=aho _ _ _ _ hr
     obtain⟨v,u,p1,p2,p3⟩:=acK (P:=P) (g:=g) (w:=w) 12 t ks 10000 vs us 0 az bs r hf ae ⟨i,hi,hs⟩ l1 l2 ae ae
      (fun j hj=>by simpa using h j ae) (fun j hj=>by simpa using h' j ae) hr
     have e1:v = .agg vs:=by
      have:(part t vs 0).run P w = .ok (.agg (vs.extract 0 (0+i.size))) w:=by simp[part,kR hA,ep hi]
      rw[this]at p1;cases p1;rw[bL,show i.size=vs.size by omega];simp
     have e2:u = .agg us:=by
      have:(part t us 0).run P w = .ok (.agg (us.extract 0 (0+i.size))) w:=by simp[part,kR hA,ep hi]
      rw[this]at p2;cases p2;rw[bL,show i.size=us.size by omega];simp
     subst e1;subst e2;refine bX.pure hR (v:= .bool (if op = .neq then !r else r)) ?_ (.bool _) hK;simp only[Sem.run_bind,run_eqGuard_agg w op t ox oy vs us (hg rfl),Result.andThen_ok];rcases hop with rfl|rfl
     ·rw[run_eql_struct,p3];rfl
     rw[run_neq_struct,p3];rfl
    exact hK.elim
 | false =>
   simp only[aP,if_false]at hK;split at hK
   ·rename_i r hr;obtain⟨l1,l2⟩:=aho _ _ _ _ hr;simp only[List.length_singleton]at l1
    match ks,l1 with
    | [k], _ =>
      have hd:∃ d,P.underlying t=some d/\((d = .bool/\k = .b)\/((∃ q,d = .int q)/\k = .i)\/(d = .string/\k = .s)):=by
       unfold pE at hf;split at hf
       ·rename_i hu;cases hf;exact⟨_,hu,.inl ⟨rfl,rfl⟩⟩
       ·rename_i q hu;cases hf;exact⟨_,hu,.inr (.inl ⟨⟨q,rfl⟩,rfl⟩)⟩
       ·rename_i hu;cases hf;exact⟨_,hu,.inr (.inr ⟨rfl,rfl⟩)⟩
       ·rename_i fs hu;simp[mV,hu]at hA
       ·rename_i n e hu;simp[mV,hu]at hA
       ·cases hf
      obtain⟨d,hu,hd⟩:=hd;simp only[jc]at hr;split at hr
      ·rename_i r1 r2 h1 h2;cases h2;cases hr;simp only[iQ]at *;rcases OI h1 hx hy with⟨rfl,x',y',rfl,rfl,rfl⟩|⟨rfl,q,x',y',rfl,rfl,rfl⟩|⟨rfl,x',y',rfl,rfl,rfl⟩
       ·rcases hd with⟨rfl,_⟩|⟨_,e⟩|⟨_,e⟩
        ·refine bX.pure hR (v:= .bool (if op = .neq then !(x'==y')else (x'==y'))) ?_ (.bool _) hK;rcases hop with rfl|rfl<;>simp[eqGuard,binOp,Op.equal,Op.maxDepth,run_equalIn_bool' w 9999 t x' y' hu]
        ·cases e
        ·cases e
       ·refine bX.pure hR (v:= .bool (if op = .neq then !(x'==y')else (x'==y'))) ?_ (.bool _) hK;rcases hop with rfl|rfl<;>simp[eqGuard,binOp,Op.intCmp,bne]
       refine bX.pure hR (v:= .bool (if op = .neq then !(x'==y')else (x'==y'))) ?_ (.bool _) hK;rcases hop with rfl|rfl<;>simp[eqGuard,binOp,Op.stringOp,RC]
      ·cases hr
   exact hK.elim
def Ld {op : BinOp} {t : TypeId} {x y : AV} {a b : Value} {ox oy : Operand} (hR : Rel g w σ) (hx : VR g w x a) (hy : VR g w y b)
    (hK:kJ op x y fun v=>K v σ):bX P (do eqGuard op t ox oy a b;binOp op t a b) g w σ K:=by
 have hg:(eqGuard op t ox oy a b).run P w = .ok () w:=by
  cases hx<;>cases hy<;>(try (cases op<;>exact hK.elim))<;>cases op<;>rfl
 obtain⟨v,w',g',av,σ',h1,h2⟩:=Z3 (P:=P) (t:=t) hR hx hy hK;exact⟨v,w',g',av,σ',by simp only[Sem.run_bind,hg,Result.andThen_ok,h1],h2⟩
def OM {elem : TypeId} {t : TypeId} (hu : P.underlying t = some (.pointer elem)) (p : Option Addr) (D : Nat) :
    (Op.equalIn (D+1) t (.pointer none) (.pointer p)).run P w = .ok p.isNone w/\(Op.equalIn (D+1) t (.pointer p) (.pointer none)).run P w = .ok p.isNone w:=by
 constructor
 ·simp[Op.equalIn,bn hu]
 ·cases p<;>simp[Op.equalIn,bn hu]
def Le (place : Nat -> Option (Nat × Nat)) {e : Env} {a : Act} {nt : Nat} (hE : iJ nt g w e a.tmps) : ∀ (parts : List (Nat × Operand)) (ps : List ((Nat × Nat) × AX)) (cs : List AV) (vs : Array Value) (K : List AV -> Prop),
    qZ nt place parts=some ps->cs.length=vs.size->(∀ i,i<cs.length->VR g w (cs.getD i .undef) (vs.getD i Go.undef))->cs.all AV.scalar=true ->
    nD cs e (ps.map fun p=>(p.1.1,p.1.2,p.2)) K ->
    ∃ cs' us,Instr.fill place vs (parts.map fun p=>(p.1,a.eval p.2))=some us/\cs'.length=us.size/\(∀ i,i<cs'.length->VR g w (cs'.getD i .undef) (us.getD i Go.undef))/\cs'.all AV.scalar=true/\us.size=vs.size/\K cs':=by
 intro parts
 induction parts with
 | nil =>
   intro ps cs vs K h hl hr hs hK;cases h;exact⟨cs,vs,rfl,hl,hr,hs,rfl,hK⟩
 | cons p parts ih =>
   intro ps cs vs K h hl hr hs hK;obtain⟨i,x⟩:=p;simp only[qZ]at h;split at h
   ·rename_i q ax ps' h1 h2 h3;cases h;obtain⟨off,n⟩:=q;simp only[bB,nD]at hK;obtain⟨k1,k2,k3,k4⟩:=hK;have hv:=c9 h2 hE;obtain⟨c1,c2⟩:=nx hv k2
    have hput:∀ (us:List Value) (vs:Array Value) (j:Nat),off+j+us.length<=vs.size->(us.zipIdx j).foldl (fun cs (p:Value × Nat)=>cs.setIfInBounds (off+p.2) p.1) vs=putRow vs (off+j) us:=by
     intro us
     induction us with
     | nil=>intros;rfl
     | cons u us ih =>
       intro vs j hh;simp only[aO]at hh;simp only[List.zipIdx_cons,List.foldl_cons,putRow];exact ih _ (j+1) (by simp;omega)
    have XP:(a.eval x).cells.zipIdx.foldl (fun cs (p:Value × Nat)=>cs.setIfInBounds (off+p.2) p.1) vs=putRow vs off (a.eval x).cells.toList:=by
     have:=hput (a.eval x).cells.toList vs 0 (by simp;omega);rw[<-Array.foldl_toList,Array.toList_zipIdx];simpa using this
    obtain⟨cs',us,r1,r2,r3,r4,r5,r6⟩:=ih ps' (fM cs off (ax.ev e).cells) (putRow vs off (a.eval x).cells.toList) K h3 (by rw[jL,size_putRow];exact hl)
     (fun j hj => by
       rw[jL]at hj;rw[q9 _ _ _ ae,oI _ _ _ (by simp;omega)];simp only[ff,<-c1];split
       ·rename_i hh;simpa using c2 (j-off) ae
       ·exact hr j hj) (Bc hs off k2) k4
    refine⟨cs',us,?_,r2,r3,r4,by rw[r5,size_putRow],r6⟩;simp only[bB,Instr.fill,h1];have e1:¬ ((a.eval x).cells.size≠n\/vs.size<off+(a.eval x).cells.size):=ae;rw[aj (by simpa using e1),XP];exact r1
   ·cases h
def Ft {t : TypeId} {fs : Array Field} {z : AV} {e : Env} {a : Act} {nt : Nat} {parts : Array (Nat × Operand)} {ps : List ((Nat × Nat) × AX)} (hR : Rel g w σ) (hE : iJ nt g w e a.tmps)
    (hz:mq P t=some z) (hzs:z.cells.all AV.scalar=true) (hu:P.underlying t=some (.struct fs)) (hfs:fs.toList.all (fun f=>(P.info? f.type).isSome)=true)
    (hp:qZ nt (fun i=>(fs[i]?).map fun f=>(f.offset,P.cellsOf f.type)) parts.toList=some ps)
    (hK:nD z.cells e (ps.map fun p=>(p.1.1,p.1.2,p.2)) fun cs=>K (.agg cs) σ):bX P (Instr.build t (parts.map fun(i,x)=>(i,a.eval x))) g w σ K:=by
 obtain⟨v,h1,h2⟩:=y7 hz w;obtain⟨h3,h4⟩:=h2 g w;obtain⟨h5,h6⟩:=nx h3 h4
 have afN:∀ (l:List Field),l.all (fun f=>(P.info? f.type).isSome)=true->(l.mapM fun f=>(do pure (f.offset,← sizeOf f.type):Sem (Nat × Nat))).run P w = .ok (l.map fun f=>(f.offset,P.cellsOf f.type)) w:=by
  intro l
  induction l with
  | nil=>intro _;rfl
  | cons f l ih =>
    intro h;simp only[List.all_cons,aD,gD]at h;obtain⟨⟨i,hi⟩,h'⟩:=h;simp only[List.mapM_cons,Sem.run_bind,ep hi,Result.andThen_ok,Sem.run_pure,ih h',bB,Program.cellsOf,hi,dh,bT]
 obtain⟨cs',us,r1,r2,r3,r4,r5,r6⟩:=Le (fun i=>(fs[i]?).map fun f=>(f.offset,P.cellsOf f.type)) hE parts.toList ps z.cells v.cells _ hp h5 h6 h4 hK;refine bX.pure hR (v:= .agg us) ?_ (.agg cs' us r2 r4 r3) r6
 have hm:(fs.mapM fun f=>(do pure (f.offset,← sizeOf f.type):Sem (Nat × Nat))).run P w = .ok (fs.map fun f=>(f.offset,P.cellsOf f.type)) w:=by
  have:=afN fs.toList hfs;rw[Array.mapM_eq_mapM_toList];simp only[Sem.run_map,this,Result.andThen_ok]
  congr 1
  apply Array.ext';simp
 simp only[Instr.build,Sem.run_bind,h1,Result.andThen_ok,bn hu,hm]
 have HA:Instr.fill (fun i=>(fs.map fun f=>(f.offset,P.cellsOf f.type))[i]?) v.cells (parts.map fun(i,x)=>(i,a.eval x)).toList=some us:=by
  rw[<-r1]
  congr 1
  ·funext i;simp
  simp
 rw[HA];rfl
end
section
variable {P:Program} {g:aN} {w:World} {σ : ai} {K:AV->ai->Prop}
def jM(g:aN)(w:World)(el:El)(xs:List AV)(vs:Array Value): Prop :=
 ∀ i c,i<xs.length->c<el.sz->VR g w ((xs.getD i .undef).cell c) (vs.getD (i*el.sz+c) Go.undef)
def jM.mono{g g':aN}{w w':World}{el:El}{xs:List AV}{vs:Array Value}(h:jM g w el xs vs)(hm:kH g w g' w'): jM g' w' el xs vs :=
 fun i c hi hc=>(h i c hi hc).mono hm
def oZ{i c n s:Nat}(hi:i<n)(hc:c<s): i*s+c<n*s:=by
 calc i*s+c<i*s+s:=ae
  _=(i+1)*s:=by rw[eH]
  _<=n*s:=bR _ hi
def jM.append {el : El} {xs ys : List AV} {vs us rest : Array Value} (h : jM g w el xs vs) (h' : jM g w el ys us) (hv : vs.size = xs.length * el.sz) (hu : us.size = ys.length * el.sz) :
    jM g w el (xs++ys) (vs++us++rest):=by
 intro i c hi hc;simp only[aC]at hi;by_cases h1:i<xs.length
 ·have h2:=oZ h1 hc;have e1:(xs++ys).getD i .undef=xs.getD i .undef:=by simp[aI h1]
  have e2:(vs++us++rest).getD (i*el.sz+c) Go.undef=vs.getD (i*el.sz+c) Go.undef:=by
   have h3:i*el.sz+c<vs.size:=ae;have h4:i*el.sz+c<(vs++us).size:=by simp;omega
   simp[fx h3,fx h4]
  rw[e1,e2];exact h i c h1 hc
 obtain⟨j,rfl⟩:∃ j,i=xs.length+j:=⟨i-xs.length,ae⟩;have hj:j<ys.length:=ae;have h2:=oZ hj hc;have e1:(xs++ys).getD (xs.length+j) .undef=ys.getD j .undef:=by simp[bp]
 have e3:(xs.length+j)*el.sz+c=vs.size+(j*el.sz+c):=by rw[cu,hv];omega
 have e2:(vs++us++rest).getD ((xs.length+j)*el.sz+c) Go.undef=us.getD (j*el.sz+c) Go.undef:=by
  rw[e3];have h4:vs.size+(j*el.sz+c)<(vs++us).size:=by simp;omega
  rw[e8,fx h4,Array.getElem?_append_right ae];simp
 rw[e1,e2];exact h' j c hj hc
def Af {b o n : Nat} (hc : ∀ c, c < n -> (w.cell? ⟨b, o + c, none⟩).isSome = true) (w2 : World) (hw : w2.heap = w.heap) :
    (loadCells ⟨b,o,none⟩ n).run P w2 = .ok (((List.range n).map fun c=>eT w ⟨b,o+c,none⟩).toArray) w2:=by
 have e:∀ a,w2.cell? a=w.cell? a:=fun a=>by simp only[World.cell?,hw]
 have:=run_loadCells (P:=P) (w:=w2) (b:=b) (o:=o) (fun c h=>by rw[e];exact hc c h) 0 #[] n ae;simpa[loadCells,jt,eT,e]using this
def oq {el : El} {x : AV} {v : Value} {K : List AV -> Prop} (hR : Rel g w σ) (hv : VR g w x v) (hK : gN σ el x K) :
    ∃ xs:List AV,∃ us:Array Value,K xs/\(Builtin.lenOf v).run P w = .ok xs.length w/\(∀ w2:World,w2.heap=w.heap->(Builtin.firstCells el.sz xs.length v).run P w2 = .ok us w2)/\us.size=xs.length*el.sz/\jM g w el xs us:=by
 cases hv<;>simp only[gN]at hK
 case str s =>
  obtain⟨rfl,hK⟩:=hK;have hs:(⟨s.toArray⟩:ByteArray).size=s.length:=List.size_toArray;refine⟨_,(s.map fun b=>Value.int .u8 b.toNat).toArray,hK,by simp[Builtin.lenOf,hs],fun w2 _=>?_,aQ,fun i c hi hc=>?_⟩
  ·have : (⟨s.toArray⟩ : ByteArray).extract 0 s.length = ⟨s.toArray⟩ := by
    apply ByteArray.ext;simp[ByteArray.data_extract]
   simp[Builtin.firstCells,this]
  have hc0:c=0:=by simp at hc;omega
  subst hc0;simp only[cZ]at hi;simp[hi,AV.cell];exact .int _ _
 case aV=>exact⟨[],#[],hK,rfl,fun _ _=>rfl,aQ,fun i c hi=>absurd hi (dm _)⟩
 case iT f bD b cap hf =>
  obtain⟨rfl,hK⟩:=hK;refine⟨[],#[],hK,rfl,fun w2 _=>?_,aQ,fun i c hi=>absurd hi (dm _)⟩;cases b with
  | none=>rfl
  | some b=>simp[Builtin.firstCells,loadCells,loadCellsFrom]
 case aR f bD xs b off cap hi hf hx ft hc h =>
  obtain⟨rfl,hK⟩:=hK
  have hcells:∀ c,c<xs.length*bD.sz->(w.cell? ⟨b,off+c,none⟩).isSome=true:=fun c iL=>by
   have hz:0<bD.sz:=by
    rcases Nat.eq_zero_or_pos bD.sz with e|e
    ·rw[e]at iL;simp at iL
    exact e
   have:=hc (c / bD.sz) (c % bD.sz) ((Nat.div_lt_iff_lt_mul hz).2 iL) (Nat.mod_lt _ hz);rwa[Nat.div_add_mod' c bD.sz]at this
  refine⟨xs,_,hK,rfl,Af hcells,aQ,fun i c hi' iL=>?_⟩;have h2:=oZ hi' iL;simpa[h2]using h i c hi' iL
 case own bD l m lo n h =>
  obtain⟨rfl,hK⟩:=hK;obtain⟨q1,q2,A,cap,rfl,q3⟩:=h;split at hK
  ·rename_i bN xs hxs;obtain⟨rfl,rfl,hK⟩:=hK;obtain⟨o1,o2,o3⟩:=hR.ok l _ hxs;obtain⟨q4,q5,q6⟩:=q3 o1.symm;have hlen:((xs.drop lo).take n).length=n:=by simp;omega
   refine⟨(xs.drop lo).take n,?_⟩;rw[hlen];rcases Nat.eq_zero_or_pos n with rfl|hn
   ·refine⟨#[],hK,rfl,fun w2 _=>?_,aQ,fun i c hi=>by simp at hi⟩;cases A with
    | none=>rfl
    | some b=>simp[Builtin.firstCells,loadCells,loadCellsFrom]
   rcases o3 with⟨rfl,_,_⟩|⟨b,vs,b1,b2,b3,b4,b5,_⟩
   ·simp at q4;omega
   have q7:=q6 ae;rw[b1]at q7;simp only[dh]at q7;subst q7
   have hrow:g.off l+lo*bN.sz+n*bN.sz<=vs.size:=by
    have:lo*bN.sz+n*bN.sz<=g.cap l*bN.sz:=by rw[<-cu];exact bR _ ae
    omega
   have hcells:∀ c,c<n*bN.sz->w.cell? ⟨b,g.off l+lo*bN.sz+c,none⟩=some (vs.getD (g.off l+lo*bN.sz+c) Go.undef):=fun c iL=>b2.cell ae;refine⟨_,hK,rfl,Af (fun c iL=>by rw[hcells c iL];rfl),aQ,fun i c hi' iL=>?_⟩;rw[hlen]at hi';have h2:=oZ hi' iL;rw[je hi']
   have e:(((List.range (n*bN.sz)).map fun c=>eT w ⟨b,g.off l+lo*bN.sz+c,none⟩).toArray).getD (i*bN.sz+c) Go.undef=vs.getD (g.off l+(lo+i)*bN.sz+c) Go.undef:=by
    rw[show g.off l+(lo+i)*bN.sz+c=g.off l+lo*bN.sz+(i*bN.sz+c) by rw[cu];omega];have:=hcells _ h2;simp[h2,eT,this]
   rw[e];exact b5 (lo+i) c ae iL
  exact hK.elim
 case mg bD p n A cap hn hc h =>
  obtain⟨rfl,rfl,hK⟩:=hK;obtain⟨b,o,cs,rfl,h1,h2,h3,h4,h5⟩:=K9 hR h hK;refine⟨cs,((List.range (n*1)).map fun c=>eT w ⟨b,o+c,none⟩).toArray,h3,by rw[h1];rfl,?_,by simp[h1],fun i c hi iL=>?_⟩
  ·rw[h1];exact Af (n:=n*1) (fun c hc=>h4 c ae)
  have hc0:c=0:=by simp at iL;omega
  subst hc0;have:=h5 i ae;have hi':i<n:=ae;have hsc:=yj h2 hi;have hcell:(cs.getD i .undef).cell 0=cs.getD i .undef:=by generalize cs.getD i .undef=z at hsc;cases z<;>first|rfl|(simp[AV.scalar]at hsc;done)
  rw[hcell];simpa[hi']using this
def uH {el : El} {x : AV} {v : Value} {K : List AV -> Prop} (m : Nat) (hR : Rel g w σ) (hv : VR g w x v) (hK : gN σ el x K) :
    ∃ xs:List AV,∃ us:Array Value,K xs/\(Builtin.lenOf v).run P w = .ok xs.length w/\(Builtin.firstCells el.sz (min xs.length m) v).run P w = .ok us w/\us.size=min xs.length m*el.sz/\jM g w el (xs.take m) us:=by
 have rows:∀ {b o n:Nat} {xs:List AV},(∀ c,c<n*el.sz->(w.cell? ⟨b,o+c,none⟩).isSome=true)->n=min xs.length m->(∀ i c,i<xs.length->c<el.sz->VR g w ((xs.getD i .undef).cell c) (eT w ⟨b,o+(i*el.sz+c),none⟩)) ->
  ∃ us:Array Value,(loadCells ⟨b,o,none⟩ (min xs.length m*el.sz)).run P w = .ok us w/\us.size=min xs.length m*el.sz/\jM g w el (xs.take m) us:=by
  intro b o n xs hc hn h;subst hn;refine⟨_,Af hc w rfl,aQ,fun i c hi iL=>?_⟩;simp only[dW]at hi;have V5:i<xs.length:=ae;have hi2:i<min xs.length m:=ae;have h2:=oZ hi2 iL;rw[show (xs.take m).getD i .undef=xs.getD i .undef by simp[show i<m by omega]];simpa[h2]using h i c V5 iL
 cases hv<;>simp only[gN]at hK
 case str s =>
  obtain⟨rfl,hK⟩:=hK;have hs:(⟨s.toArray⟩:ByteArray).size=s.length:=List.size_toArray;refine⟨_,((s.take m).map fun b=>Value.int .u8 b.toNat).toArray,hK,by simp[Builtin.lenOf,hs],?_,by simp;omega,fun i c hi hc=>?_⟩
  ·have : (⟨s.toArray⟩ : ByteArray).extract 0 (min s.length m) = ⟨(s.take m).toArray⟩ := by
    apply ByteArray.ext;simp[ByteArray.data_extract,List.take_eq_take_iff];omega
   simp[Builtin.firstCells,this]
  have hc0:c=0:=by simp at hc;omega
  subst hc0;simp only[dW,cZ]at hi;have h1:i<s.length:=ae;have h2:i<m:=ae;simp[h1,h2,AV.cell];exact .int _ _
 case aV=>exact⟨[],#[],hK,rfl,by simp[Builtin.firstCells],aQ,fun i c hi=>by simp at hi⟩
 case iT f bD b cap hf =>
  obtain⟨rfl,hK⟩:=hK;refine⟨[],#[],hK,rfl,?_,aQ,fun i c hi=>by simp at hi⟩;cases b with
  | none=>simp[Builtin.firstCells]
  | some b=>simp[Builtin.firstCells,loadCells,loadCellsFrom]
 case aR f bD xs b off cap hi hf hx ft hc h =>
  obtain⟨rfl,hK⟩:=hK
  have hcells:∀ c,c<min xs.length m*bD.sz->(w.cell? ⟨b,off+c,none⟩).isSome=true:=fun c iL=>by
   have hz:0<bD.sz:=by
    rcases Nat.eq_zero_or_pos bD.sz with e|e
    ·rw[e]at iL;simp at iL
    exact e
   have hle:min xs.length m*bD.sz<=xs.length*bD.sz:=bR _ ae;have:=hc (c / bD.sz) (c % bD.sz) ((Nat.div_lt_iff_lt_mul hz).2 ae) (Nat.mod_lt _ hz);rwa[Nat.div_add_mod' c bD.sz]at this
  obtain⟨us,u1,u2,u3⟩:=rows hcells rfl h;exact⟨xs,us,hK,rfl,u1,u2,u3⟩
 case own bD l m' lo n h =>
  obtain⟨rfl,hK⟩:=hK;obtain⟨q1,q2,A,cap,rfl,q3⟩:=h;split at hK
  ·rename_i bN xs hxs;obtain⟨rfl,rfl,hK⟩:=hK;obtain⟨o1,o2,o3⟩:=hR.ok l _ hxs;obtain⟨q4,q5,q6⟩:=q3 o1.symm;have hlen:((xs.drop lo).take n).length=n:=by simp;omega
   rcases Nat.eq_zero_or_pos n with rfl|hn
   ·refine⟨(xs.drop lo).take 0,#[],hK,rfl,?_,aQ,fun i c hi=>by simp at hi⟩;cases A with
    | none=>simp[Builtin.firstCells]
    | some b=>simp[Builtin.firstCells,loadCells,loadCellsFrom]
   rcases o3 with⟨rfl,_,_⟩|⟨b,vs,b1,b2,b3,b4,b5,_⟩
   ·simp at q4;omega
   have q7:=q6 ae;rw[b1]at q7;simp only[dh]at q7;subst q7
   have hrow:g.off l+lo*bN.sz+n*bN.sz<=vs.size:=by
    have:lo*bN.sz+n*bN.sz<=g.cap l*bN.sz:=by rw[<-cu];exact bR _ ae
    omega
   have hcells:∀ c,c<n*bN.sz->w.cell? ⟨b,g.off l+lo*bN.sz+c,none⟩=some (vs.getD (g.off l+lo*bN.sz+c) Go.undef):=fun c iL=>b2.cell ae;have hle:min n m*bN.sz<=n*bN.sz:=bR _ ae
   obtain⟨us,u1,u2,u3⟩:=rows (xs:=(xs.drop lo).take n) (b:=b) (o:=g.off l+lo*bN.sz) (n:=min n m) (fun c iL=>by rw[hcells c ae];rfl) (by rw[hlen]) (fun i c hi iL=>by
    rw[hlen]at hi;have h2:=oZ hi iL;rw[je hi]
    have e:eT w ⟨b,g.off l+lo*bN.sz+(i*bN.sz+c),none⟩=vs.getD (g.off l+(lo+i)*bN.sz+c) Go.undef:=by
     unfold eT;rw[hcells _ h2,show g.off l+lo*bN.sz+(i*bN.sz+c)=g.off l+(lo+i)*bN.sz+c by rw[cu];omega];rfl
    rw[e];exact b5 (lo+i) c ae iL)
   rw[hlen]at u1 u2;exact⟨(xs.drop lo).take n,us,hK,by rw[hlen];rfl,by rw[hlen];exact u1,by rw[hlen];exact u2,u3⟩
  exact hK.elim
 case mg bD p n A cap hn hc h =>
  obtain⟨rfl,rfl,hK⟩:=hK;obtain⟨b,o,cs,rfl,h1,h2,h3,h4,h5⟩:=K9 hR h hK
  obtain⟨us,u1,u2,u3⟩:=rows (xs:=cs) (b:=b) (o:=o) (n:=min cs.length m) (fun c iL=>h4 c (by simp at iL;omega)) rfl (fun i c hi iL=>by
   have hc0:c=0:=by simp at iL;omega
   subst hc0;have:=h5 i ae;have hsc:=yj h2 hi;have hcell:(cs.getD i .undef).cell 0=cs.getD i .undef:=by generalize cs.getD i .undef=z at hsc;cases z<;>first|rfl|(simp[AV.scalar]at hsc;done)
   rw[hcell];simpa using this)
  exact⟨cs,us,h3,by rw[h1];rfl,u1,u2,u3⟩
def ON(need:Nat): ∀(r c:Nat),c<=2*need+512->Builtin.growBy need r c<=2*need+512
 | 0,c,h=>h
 | r + 1, c, h => by
   simp only[Builtin.growBy];split
   ·exact h
   exact ON need r _ ae
def XQ{need old:Nat}(h:old<need): Builtin.nextslicecap need old<=2*need+512:=by
 unfold Builtin.nextslicecap;split
 ·omega
 split
 ·omega
 exact ON need 4 old ae
def afO{need old bytes sz:Nat}(h:old<need)(hb:bytes<=24*(sz+1))(hs:sz<=1000)(hr:need*(sz+1)<=2^40): ¬ Builtin.nextslicecap need old*bytes>2^48:=by
 have h1:=XQ h;have h2:Builtin.nextslicecap need old*bytes<=(2*need+512)*(24*(sz+1)):=Nat.mul_le_mul h1 hb
 have h3:(2*need+512)*(24*(sz+1))=48*(need*(sz+1))+12288*(sz+1):=by
  rw[cu,show 2*need*(24*(sz+1))=48*(need*(sz+1)) by
   rw[Nat.mul_comm 2 need,Nat.mul_assoc,show 2*(24*(sz+1))=48*(sz+1) by omega,Nat.mul_left_comm]]
  omega
 have h4:48*(need*(sz+1))<=48*2^40:=Nat.mul_le_mul_left _ hr;have h5:(2:Nat) ^ 48=281474976710656:=cW;have h6:(2:Nat) ^ 40=1099511627776:=cW;omega
def Js {ats : Array TypeId} {r sT xT e : TypeId} {d : TypeDesc} {el : El} {base : Option Addr} {sLen sCap n : Nat} {x : Value} {olds news : Array Value}
    (h0:ats[0]? = some sT) (h1:ats[1]? = some xT) (hu:P.underlying sT=some (.slice e)) (hx:P.underlying xT=some d) (hd:∀ k,d≠ .int k) (he:kr P e=some el)
    (hl:(Builtin.lenOf x).run P w = .ok n w) (hc:sCap<sLen+n) (hr:(sLen+n)*(el.sz+1)<=2^40)
    (ho:∀ dr,(Builtin.firstCells el.sz sLen (.slice base sLen sCap)).run P { w with drawn:=dr } = .ok olds { w with drawn:=dr })
    (hn:∀ dr,(Builtin.firstCells el.sz n x).run P { w with drawn:=dr } = .ok news { w with drawn:=dr }) :
    ∃ cap rest dr, sLen + n <= cap /\ rest.size = (cap - (sLen + n)) * el.sz /\
      (Builtin.append_ ats r #[.slice base sLen sCap,x]).run P w = .ok (.slice (some ⟨w.heap.size,0,none⟩) (sLen+n) cap) (World.alloc { w with drawn:=dr } (.cells (olds++news++rest) e)):=by
 obtain⟨fi,hi,_,hs,_,hb,hsz,z,hz,hzs⟩:=jb he;have hroom:=afO (bytes:=fi.bytes) (old:=sCap) hc hb hsz hr;have hzv:∀ w,(zeroValue e).run P w = .ok z w:=fun w=>by simp[zeroValue,run_typeInfo hi,hz]
 let q:Question:= .appendCap (sLen+n) sCap e
 let cap:=q.cut (w.tape w.drawn q)
 refine⟨cap,Builtin.zeroCells z.cells (cap-(sLen+n)),w.drawn+1,by simp only[cap,q,Question.cut];omega,by simp[Builtin.zeroCells,hzs],?_⟩;have aoI:(match d with | .int _=>true|_=>false)=false:=by cases d<;>first|rfl|exact absurd rfl (hd _)
 have hfalse:((d matches .int _):Bool)=false:=by cases d<;>first|rfl|exact absurd rfl (hd _)
 have ajJ:¬ (sLen+n<=sCap):=ae
 have hbytes:fi.bytes=0->¬ (((sLen+n:Nat):Int)>IntKind.i64.max):=fun _=>by
  have:(sLen+n)*1<=(sLen+n)*(el.sz+1):=Nat.mul_le_mul_left _ ae;have h6:(2:Nat) ^ 40=1099511627776:=cW;have:IntKind.i64.max=9223372036854775807:=cW;omega
 have hb':¬ ((((sLen+n:Nat):Int)>IntKind.i64.max)/\fi.bytes=0):=fun h=>hbytes h.2 h.1;have anq:q.forced=false:=rfl;unfold Builtin.append_;simp only[gw,bO,bH,h0,h1,Sem.run_bind,bn hu,Result.andThen_ok,ep hi,hs,bn hx,Sem.run_pure,hfalse,hl,aP,if_false,aj ajJ,run_typeInfo hi,false_or,iK,if_true];rw[aj hb'];simp only[Sem.run_bind,run_typeInfo hi,Result.andThen_ok,aj hroom];rw[run_choose];simp only[show (Question.appendCap (sLen+n) sCap e).forced=false from rfl,aP,if_false,Result.andThen_ok,run_typeInfo hi,run_askRoom,ho,hn,hzv,newRow,Sem.run_bind,run_newObj,Sem.run_pure];rfl
def Ip {ats : Array TypeId} {r sT xT e : TypeId} {d : TypeDesc} {el : El} {b o : Nat} {sLen sCap n : Nat} {x : Value} {news vs : Array Value}
    (h0:ats[0]? = some sT) (h1:ats[1]? = some xT) (hu:P.underlying sT=some (.slice e)) (hx:P.underlying xT=some d) (hd:∀ k,d≠ .int k) (he:kr P e=some el)
    (hl:(Builtin.lenOf x).run P w = .ok n w) (hc:sLen+n<=sCap)
    (hn:(Builtin.firstCells el.sz n x).run P w = .ok news w) (hr:Row w b vs) (hsz:o+sLen*el.sz+news.size<=vs.size) (h1c:∀ u ∈ news.toList,u.oneCell'=true) :
    (Builtin.append_ ats r #[.slice (some ⟨b,o,none⟩) sLen sCap,x]).run P w = .ok (.slice (some ⟨b,o,none⟩) (sLen+n) sCap) (setRow w b (o+sLen*el.sz) news.toList):=by
 obtain⟨fi,hi,_,hs,_⟩:=jb he;have hfalse:((d matches .int _):Bool)=false:=by cases d<;>first|rfl|exact absurd rfl (hd _)
 have hst:=rX (P:=P) (b:=b) (o:=o+sLen*el.sz) news.toList w vs 0 hr (by simpa using hsz) h1c;unfold Builtin.append_;simp only[gw,bO,bH,h0,h1,Sem.run_bind,bn hu,Result.andThen_ok,ep hi,hs,bn hx,Sem.run_pure,hfalse,hl,aP,if_false,au hc,hn,iK,if_true,add_plain];rw[hst];simp
def Fu {ats : Array TypeId} {r sT xT e : TypeId} {d : TypeDesc} {el : El} {sLen sCap n : Nat} {x : Value} {news : Array Value}
    (h0:ats[0]? = some sT) (h1:ats[1]? = some xT) (hu:P.underlying sT=some (.slice e)) (hx:P.underlying xT=some d) (hd:∀ k,d≠ .int k) (he:kr P e=some el)
    (hl:(Builtin.lenOf x).run P w = .ok n w) (hc:sLen+n<=sCap) (hn:(Builtin.firstCells el.sz n x).run P w = .ok news w) :
    (Builtin.append_ ats r #[.slice none sLen sCap,x]).run P w = .ok (.slice none (sLen+n) sCap) w:=by
 obtain⟨fi,hi,_,hs,_⟩:=jb he;have hfalse:((d matches .int _):Bool)=false:=by cases d<;>first|rfl|exact absurd rfl (hd _)
 unfold Builtin.append_;simp only[gw,bO,bH,h0,h1,Sem.run_bind,bn hu,Result.andThen_ok,ep hi,hs,bn hx,Sem.run_pure,hfalse,hl,aP,if_false,au hc,hn,iK,if_true]
def tI{el:El}{xs:List AV}{us:Array Value}(h:jM g w el xs us)(hs:us.size=xs.length*el.sz)(hf:∀ i,i<xs.length->(xs.getD i .undef).fits el=true): ∀ u ∈ us.toList,u.oneCell'=true:=by
 intro u hu;obtain⟨k,hk,rfl⟩:=List.mem_iff_getElem.1 hu;simp only[ff]at hk
 have hz:0<el.sz:=by
  rcases Nat.eq_zero_or_pos el.sz with e|e
  ·rw[e]at hs;omega
  exact e
 have h1:k / el.sz<xs.length:=(Nat.div_lt_iff_lt_mul hz).2 ae;have h2:k % el.sz<el.sz:=Nat.mod_lt _ hz;have:=h _ _ h1 h2;rw[Nat.div_add_mod' k el.sz]at this
 have hsc:((xs.getD (k / el.sz) .undef).cell (k % el.sz)).scalar=true:=by
  have hft:=hf _ h1;generalize xs.getD (k / el.sz) .undef=y at hft
  cases y<;>simp only[AV.fits,Bool.and_eq_true,beq_iff_eq]at hft<;>first
   |(obtain⟨⟨_,q1⟩,q2⟩:=hft;exact yj q2 ae)
   | rfl
   | cases hft
 have:=this.Hs hsc;simpa[hk]using this
def Fv {T : Option TypeId} {ats : Array TypeId} {r sT xT e : TypeId} {d : TypeDesc} {el : El} {x y : AV} {a b : Value} (hR : Rel g w σ)
    (h0:ats[0]? = some sT) (h1:ats[1]? = some xT) (hu:P.underlying sT=some (.slice e)) (hd':P.underlying xT=some d) (hd:∀ k,d≠ .int k) (he:kr P e=some el)
    (hx:VR g w x a) (hy:VR g w y b) (hT:T=none\/T=some e) (sQ:oY σ T el x y K):bX P (Builtin.append_ ats r #[a,b]) g w σ K:=by
 obtain⟨ys,news,hK,hl,wW,hsz,hh⟩:=oq (P:=P) hR hy sQ;clear sQ;obtain⟨hfit,hK⟩:=hK
 have Ag:∀ i,i<ys.length->(ys.getD i .undef).fits el=true:=fun i hi=>by
  have:=bf.1 hfit (ys[i]) (dI _);simpa[hi]using this
 have h1c:=tI hh hsz Ag;have hn:∀ dr,(Builtin.firstCells el.sz ys.length b).run P { w with drawn:=dr } = .ok news { w with drawn:=dr }:=fun dr=>wW _ rfl
 have hty:∀ (w1:World) (vs:Array Value),yV (World.alloc w1 (.cells vs e)) w1.heap.size vs.size T:=fun w1 vs=>by
  rcases hT with rfl|rfl
  ·trivial
  have:(World.alloc w1 (.cells vs e)).heap[w1.heap.size]? = some (.cells vs e):=heap_alloc_new w1 _;simp only[yV,World.shape?,this]
 have fresh:∀ (xs:List AV) (olds:Array Value) (base:Option Addr) (sCap:Nat),a = .slice base xs.length sCap->sCap<xs.length+ys.length->gH (xs.length+ys.length) el ->
  (∀ dr,(Builtin.firstCells el.sz xs.length (.slice base xs.length sCap)).run P { w with drawn:=dr } = .ok olds { w with drawn:=dr }) ->
  olds.size=xs.length*el.sz->jM g w el xs olds->(∀ i,i<xs.length->(xs.getD i .undef).fits el=true) ->
  ∃ cap rest dr, xs.length + ys.length <= cap /\ rest.size = (cap - (xs.length + ys.length)) * el.sz /\ (olds ++ news ++ rest).size = cap * el.sz /\ jM g w el (xs ++ ys) (olds ++ news ++ rest) /\ (∀ i, i < (xs ++ ys).length -> ((xs ++ ys).getD i .undef).fits el = true) /\
    (Builtin.append_ ats r #[a,b]).run P w = .ok (.slice (some ⟨w.heap.size,0,none⟩) (xs.length+ys.length) cap) (World.alloc { w with drawn:=dr } (.cells (olds++news++rest) e)):=by
  intro xs olds base sCap ha hc hr ho hos hoh hof;obtain⟨cap,rest,dr,k1,k2,k3⟩:=Js (P:=P) (r:=r) h0 h1 hu hd' hd he hl hc hr ho hn;refine⟨cap,rest,dr,k1,k2,?_,hoh.append hh hos hsz,fun i hi=>?_,by rw[ha];exact k3⟩
  ·simp only[Array.size_append,hos,hsz,k2];rw[<-cu,<-cu]
   congr 1
   omega
  simp only[aC]at hi;by_cases h:i<xs.length
  ·have:=hof i h;simpa[aI h]using this
  obtain⟨j,rfl⟩:∃ j,i=xs.length+j:=⟨i-xs.length,ae⟩;have:=Ag j ae;simpa[bp]using this
 have pushed:∀ (zs:List AV) (vs:Array Value) (cap dr:Nat),zs.length<=cap->vs.size=cap*el.sz->jM g w el zs vs->(∀ i,i<zs.length->(zs.getD i .undef).fits el=true) ->
  ∃ g', Rel g' (World.alloc { w with drawn := dr } (.cells vs e)) (σ ++ [.dn T el zs]) /\ gE σ g w (σ ++ [.dn T el zs]) g' (World.alloc { w with drawn := dr } (.cells vs e)) /\
    VR g' (World.alloc { w with drawn:=dr } (.cells vs e)) (.own el σ.length zs.length 0 zs.length) (.slice (some ⟨w.heap.size,0,none⟩) zs.length cap):=by
  intro zs vs cap dr k1 k2 k3 k4;have jf:=hR.drew dr;have hm:=mH g { w with drawn:=dr } (.cells vs e) zs.length (some w.heap.size) cap jf.lt
  obtain⟨r1,r2⟩:=jf.tT (.cells vs e) (.dn T el zs) zs.length cap
   ⟨by simp[aN.push],k4,.inr ⟨w.heap.size,vs,by simp[aN.push],q8 _ vs e,by simp[aN.push,k2],by simp[aN.push,k1],fun i c hi hc=>by simp only[aN.push,if_true,bL];exact((k3 i c hi hc).mono (gE.drew σ g w dr).mono).mono hm,by simp only[aN.push,if_true];exact(hty _ _).v⟩⟩
  refine⟨_,r1,(gE.drew σ g w dr).trans r2,.own _ _ _ _ _ _ ⟨by simp[aN.push,hR.len],by simp[aN.push,hR.len],_,_,rfl,fun _=>⟨ae,by simp[aN.push,hR.len],fun _=>by simp[aN.push,hR.len]⟩⟩⟩
 cases hx<;>(try exact False.elim hK)
 case aV =>
  simp only at hK;split at hK
  ·rename_i hz;refine⟨.slice none 0 0,w,g,.aV,σ,?_,hR,.refl _ _ _,.aV,hK⟩;have:=Fu (P:=P) (r:=r) (sLen:=0) (sCap:=0) h0 h1 hu hd' hd he hl ae (wW w rfl);rw[this];simp[hz]
  rename_i hz;obtain⟨hr,hK⟩:=hK;obtain⟨cap,rest,dr,k1,k2,k3,k4,k5,k6⟩:=fresh [] #[] none 0 rfl (by simp;omega) (by simpa using hr) (fun _=>rfl) aQ (fun i c hi=>absurd hi (dm _)) (fun i hi=>absurd hi (dm _));simp only[bS,bt,bL]at k1 k4 k5 k6;obtain⟨g',r1,r2,r3⟩:=pushed ys _ cap dr k1 k3 k4 k5;exact⟨_,_,g',_,_,k6,r1,r2,r3,hK⟩
 case iT f bD base cap hf =>
  cases f with
  | false=>exact hK.elim
  | true =>
    obtain⟨rfl,hK⟩:=hK;have hcap:cap=0:=hf rfl;subst hcap;split at hK
    ·rename_i hz;refine⟨.slice base 0 0,w,g,.aR true bD [],σ,?_,hR,.refl _ _ _,.iT _ _ _ _ hf,hK⟩;cases base with
     | none =>
       have:=Fu (P:=P) (r:=r) (sLen:=0) (sCap:=0) h0 h1 hu hd' hd he hl ae (wW w rfl);rw[this];simp[hz]
     | some A =>
       obtain⟨fi,hi,_,hs,_⟩:=jb he;have hfalse:((d matches .int _):Bool)=false:=by cases d<;>first|rfl|exact absurd rfl (hd _)
       have hne:news = #[]:=by rw[hz]at hsz;exact fg (by simpa using hsz)
       have De:=wW w rfl;rw[hne,hz]at De;rw[hz]at hl;unfold Builtin.append_;simp only[gw,bO,bH,h0,h1,Sem.run_bind,bn hu,Result.andThen_ok,ep hi,hs,bn hd',Sem.run_pure,hfalse,hl,aP,if_false,eZ,bg,if_true,De,iK];simp[storeCells]
    rename_i hz;obtain⟨hr,hK⟩:=hK;obtain⟨cap,rest,dr,k1,k2,k3,k4,k5,k6⟩:=fresh [] #[] base 0 rfl (by simp;omega) (by simpa using hr) (fun _=>by cases base<;>simp[Builtin.firstCells,loadCells,loadCellsFrom]) aQ (fun i c hi=>absurd hi (Nat.not_lt_zero _)) (fun i hi=>absurd hi (Nat.not_lt_zero _));simp only[bS,bt,bL]at k1 k4 k5 k6 hK;obtain⟨g',r1,r2,r3⟩:=pushed ys _ cap dr k1 k3 k4 k5;exact⟨_,_,g',_,_,k6,r1,r2,r3,hK⟩
 case aR f bD xs b' off cap Fq hf Ad ft hc h =>
  cases f with
  | false=>exact hK.elim
  | true =>
    obtain⟨rfl,hK⟩:=hK;have hcap:cap=xs.length:=hf rfl;subst hcap;have Bd:VR g w (.aR true bD xs) (.slice (some ⟨b',off,none⟩) xs.length xs.length):= .aR true bD xs b' off _ Fq hf Ad ft hc h;split at hK
    ·rename_i hz;refine⟨.slice (some ⟨b',off,none⟩) xs.length xs.length,w,g,.aR true bD xs,σ,?_,hR,.refl _ _ _,Bd,hK⟩;obtain⟨fi,hi,_,hs,_⟩:=jb he;have hfalse:((d matches .int _):Bool)=false:=by cases d<;>first|rfl|exact absurd rfl (hd _)
     have hne:news = #[]:=by rw[hz]at hsz;exact fg (by simpa using hsz)
     have De:=wW w rfl;rw[hne,hz]at De;rw[hz]at hl;unfold Builtin.append_;simp only[gw,bO,bH,h0,h1,Sem.run_bind,bn hu,Result.andThen_ok,ep hi,hs,bn hd',Sem.run_pure,hfalse,hl,aP,if_false,eZ,bg,if_true,De,iK];simp[storeCells]
    rename_i hz;obtain⟨hr,hK⟩:=hK;obtain⟨xs',olds,q1,q2,q3,q4,q5⟩:=oq (P:=P) (K:=fun zs=>zs=xs) (el:=bD) hR Bd (by simp[gN]);subst q1;obtain⟨cap,rest,dr,k1,k2,k3,k4,k5,k6⟩:=fresh xs' olds _ xs'.length rfl ae hr (fun _=>q3 _ rfl) q4 q5 ft;obtain⟨g',r1,r2,r3⟩:=pushed (xs'++ys) _ cap dr (by simpa using k1) k3 k4 k5;simp only[aC]at r3;exact⟨_,_,g',_,_,k6,r1,r2,r3,hK⟩
 case own bD l m lo n h =>
  obtain⟨rfl,hK⟩:=hK;have Bd:VR g w (.own bD l m lo n) a:= .own _ _ _ _ _ _ h;obtain⟨q1,q2,A,cap,rfl,q3⟩:=h;split at hK
  ·rename_i T' bN xs hxs;obtain⟨hTT,rfl,rfl,rfl,rfl,hr,hK⟩:=hK;obtain⟨o1,o2,o3⟩:=hR.ok l _ hxs;obtain⟨q4,q5,q6⟩:=q3 o1.symm;by_cases hc:xs.length+ys.length<=cap
   ·
    rcases Nat.eq_zero_or_pos ys.length with hz|hz
    ·
     have hne:news = #[]:=by rw[hz]at hsz;exact fg (by simpa using hsz)
     have hys:ys=[]:=eP hz;subst hys
     have sH : σ.set l (.dn T' bN xs) = σ:=by
      apply jy;intro k;by_cases e:k=l
      ·subst e;rw[bw (by have:=(aE.1 hxs).1;exact this)];exact hxs.symm
      rw[aF (Ne.symm e)]
     simp only[bt,eZ,bZ,sH]at hK;refine⟨.slice A xs.length cap,w,g,.own bN l xs.length 0 xs.length,σ,?_,hR,.refl _ _ _,Bd,hK⟩;obtain⟨fi,hi,_,hs,_⟩:=jb he;have hfalse:((d matches .int _):Bool)=false:=by cases d<;>first|rfl|exact absurd rfl (hd _)
     have De:=wW w rfl;rw[hne]at De;simp only[bt,eZ]at hc De hl;unfold Builtin.append_;simp only[gw,bO,bH,h0,h1,Sem.run_bind,bn hu,Result.andThen_ok,ep hi,hs,bn hd',Sem.run_pure,hfalse,hl,aP,if_false,eZ,au hc,De,iK,if_true];cases A<;>simp[storeCells]
    rcases o3 with⟨rfl,o4,o5⟩|⟨b',vs,b1,b2,b3,b4,b5,b6⟩
    ·simp at q5 hc;omega
    have q7:=q6 ae;rw[b1]at q7;simp only[dh]at q7;subst q7;have ajK:g.cap l=cap:=ae;have hroom:g.off l+(xs.length+ys.length)*bN.sz<=vs.size:=by rw[b3,ajK];exact Nat.add_le_add_left (bR _ hc) _
    rw[cu]at hroom;have hrun:=Ip (P:=P) (r:=r) (b:=b') (o:=g.off l+0*bN.sz) (sLen:=xs.length) h0 h1 hu hd' hd he hl hc (wW w rfl) b2 ae h1c;obtain⟨f1,f2,f3,f4,f5⟩:=qY w b' (g.off l+0*bN.sz+xs.length*bN.sz) news.toList
    obtain⟨r1,r2⟩:=hR.change (o':= .dn T' bN (xs++ys)) (w':=setRow w b' (g.off l+0*bN.sz+xs.length*bN.sz) news.toList) hxs rfl (xs.length+ys.length) (some b') (g.cap l) (g.off l) ae (fun e=>by omega) ae f2 f3 f4
     (fun c mh hne=>f5 c (fun e=>hne (e ▸ b1))) (fun c mh=> .inl (by rw[b1,mh]))
     (fun hm => ⟨by simp [aN.reset], fun i hi => by
       simp only[aC]at hi;by_cases h:i<xs.length
       ·have:=o2 i h;simpa[aI h]using this
       ·obtain⟨j,rfl⟩:∃ j,i=xs.length+j:=⟨i-xs.length,ae⟩;have:=Ag j ae;simpa[bp]using this,
       .inr ⟨b',_,by simp[aN.reset],b2.setRow _ _,by rw[size_putRow];simp[aN.reset,b3],by simp[aN.reset];omega,fun i c hi mh=>by
        simp only[aC]at hi;rw[show (g.reset l (xs.length+ys.length) (some b') (g.cap l) (g.off l)).off l=g.off l from by simp[aN.reset]];rw[oI _ _ _ (by simp;omega)];simp only[ff,hsz];by_cases h:i<xs.length
        ·have h2:=oZ h mh;rw[aj ae,show(xs++ys).getD i .undef=xs.getD i .undef by simp[aI h]];exact(b5 i c h mh).mono hm
        ·obtain⟨j,rfl⟩:∃ j,i=xs.length+j:=⟨i-xs.length,ae⟩;have hj:j<ys.length:=ae;have h2:=oZ hj mh
         rw[cu,au ae,show(xs++ys).getD (xs.length+j) .undef=ys.getD j .undef by simp[bp],
          show g.off l+(xs.length*bN.sz+j*bN.sz)+c-(g.off l+0*bN.sz+xs.length*bN.sz)=j*bN.sz+c by omega]
         have:=(hh j c hj mh).mono hm;have h3:j*bN.sz+c<news.size:=ae;simpa[h3]using this,by
        cases T' with
        | none=>trivial
        | some T'=>simp only[aN.reset,if_true];rw[size_putRow];exact⟨(uC _ _ _ _ _).trans b6.1,b6.2⟩⟩⟩)
    refine⟨_,_,_,_,_,hrun,r1,r2,.own _ _ _ _ _ _ ⟨by simp[aN.reset];exact q1,by simp[aN.reset],_,_,rfl,fun _=>⟨ae,by simp[aN.reset];omega,fun _=>by simp[aN.reset]⟩⟩,hK⟩
   
   obtain⟨xs',olds,p1,p2,p3,p4,p5⟩:=oq (P:=P) (K:=fun zs=>zs=xs) (el:=bN) hR Bd (by simp[gN,hxs]);subst p1;obtain⟨cap',rest,dr,k1,k2,k3,k4,k5,k6⟩:=fresh xs' olds A cap rfl ae hr (fun _=>p3 _ rfl) p4 p5 o2;have jf:=hR.drew dr
   obtain⟨r1,r2⟩:=jf.change (o':= .dn T' bN (xs'++ys)) (w':=World.alloc { w with drawn:=dr } (.cells (olds++news++rest) e)) hxs rfl (xs'.length+ys.length) (some w.heap.size) cap' 0 ae
    (fun e => by
      have hys:ys.length=0:=ae;have:¬ (xs'.length<=cap):=ae
      have:xs'.length<=g.cap l:=by
       rcases o3 with⟨rfl,_,_⟩|⟨b',vs,b1,b2,b3,b4,b5⟩
       ·exact ew _
       exact b4
      omega) aQ rfl rfl rfl
    (fun c mh _=>heap_alloc_old _ _ mh) (fun c mh=> .inr (by cases mh;exact Nat.le_refl _))
    (fun hm => ⟨by simp [aN.reset], k5, .inr ⟨w.heap.size, _, by simp [aN.reset], q8 { w with drawn := dr } _ e, by simp only [aN.reset, if_true, bL]; exact k3, by simp [aN.reset]; exact k1, fun i c hi mh => by simp only [aN.reset, if_true, bL]; exact ((k4 i c hi mh).mono (gE.drew σ g w dr).mono).mono hm, by
      simp only[aN.reset,if_true];rcases hTT with rfl|rfl
      ·trivial
      ·exact(hty { w with drawn:=dr } _).v⟩⟩)
   refine⟨_,_,_,_,_,k6,r1,(gE.drew σ g w dr).trans r2,.own _ _ _ _ _ _ ⟨by simp[aN.reset];exact q1,by simp[aN.reset],_,_,rfl,fun _=>⟨ae,by simp[aN.reset],fun _=>by simp[aN.reset]⟩⟩,hK⟩
  exact hK.elim
end
section
variable {P:Program} {g:aN} {w:World} {σ : ai} {K:AV->ai->Prop}
def HZ {t : TypeId} {n : Nat} {el : TypeId} {fi : TypeInfo} {z : AV} {e : Env} {a : Act} {nt : Nat} {parts : Array (Nat × Operand)} {ps : List ((Nat × Nat) × AX)} (hR : Rel g w σ) (hE : iJ nt g w e a.tmps)
    (hz:mq P t=some z) (hu:P.underlying t=some (.array n el)) (hi:P.info? el=some fi)
    (hp:qZ nt (fun i=>some (i*P.cellsOf el,P.cellsOf el)) parts.toList=some ps)
    (hK:nD z.cells e (ps.map fun p=>(p.1.1,p.1.2,p.2)) fun cs=>K (.agg cs) σ):bX P (Instr.build t (parts.map fun(i,x)=>(i,a.eval x))) g w σ K:=by
 obtain⟨v,h1,h2⟩:=y7 hz w;obtain⟨h3,h4⟩:=h2 g w;obtain⟨h5,h6⟩:=nx h3 h4;obtain⟨cs',us,r1,r2,r3,r4,r5,r6⟩:=Le (fun i=>some (i*P.cellsOf el,P.cellsOf el)) hE parts.toList ps z.cells v.cells _ hp h5 h6 h4 hK;refine bX.pure hR (v:= .agg us) ?_ (.agg cs' us r2 r4 r3) r6;have hc:P.cellsOf el=fi.size:=by simp[Program.cellsOf,hi]
 simp only[Instr.build,Sem.run_bind,h1,Result.andThen_ok,bn hu,ep hi]
 have HA:Instr.fill (fun i=>some (i*fi.size,fi.size)) v.cells (parts.map fun(i,x)=>(i,a.eval x)).toList=some us:=by
  rw[<-r1,hc]
  congr 1
  simp
 rw[HA];rfl
def Lf{el:El}{a:AV}(h:a.fits el=true): a.cells.all AV.scalar=true/\a.cells.length=el.sz/\ ∀ c,c<el.sz->a.cells.getD c .undef=a.cell c:=by
 cases a<;>simp only[AV.fits,Bool.and_eq_true,beq_iff_eq]at h<;>first
  |(obtain⟨⟨_,h2⟩,h3⟩:=h;exact⟨h3,h2,fun _ _=>rfl⟩)
  |(obtain⟨_,h2⟩:=h;exact⟨rfl,by simp[AV.cells,h2],fun c hc=>by rw[show c=0 from by omega];rfl⟩)
  | cases h
def UD {el : El} {e : Env} {a : Act} {nt : Nat} (hE : iJ nt g w e a.tmps) : ∀ (parts : List (Nat × Operand)) (ps : List (Nat × AX)) (xs : List AV) (vs : Array Value) (K : List AV -> Prop),
    qZ nt some parts=some ps->vs.size=xs.length*el.sz->jM g w el xs vs->(∀ i,i<xs.length->(xs.getD i .undef).fits el=true)->mI el xs e ps K ->
    ∃ xs' us,Instr.fill (fun i=>some (i*el.sz,el.sz)) vs (parts.map fun p=>(p.1,a.eval p.2))=some us/\us.size=xs'.length*el.sz/\xs'.length=xs.length/\jM g w el xs' us/\(∀ i,i<xs'.length->(xs'.getD i .undef).fits el=true)/\K xs':=by
 intro parts
 induction parts with
 | nil =>
   intro ps xs vs K h hs hh hf hK;cases h;exact⟨xs,vs,rfl,hs,rfl,hh,hf,hK⟩
 | cons p parts ih =>
   intro ps xs vs K h hs hh hf hK;obtain⟨i,x⟩:=p;simp only[qZ]at h;split at h
   ·rename_i q ax ps' h1 h2 h3;cases h1;cases h;simp only[mI]at hK;obtain⟨k1,k2,k3⟩:=hK;have hv:=c9 h2 hE;obtain⟨f1,f2,f3⟩:=Lf k1;obtain⟨c1,c2⟩:=nx hv f1
    have hrow:i*el.sz+el.sz<=vs.size:=by
     rw[hs]
     calc i*el.sz+el.sz=(i+1)*el.sz:=by rw[eH]
      _<=xs.length*el.sz:=bR _ k2
    have hput:∀ (us:List Value) (vs:Array Value) (off j:Nat),off+j+us.length<=vs.size->(us.zipIdx j).foldl (fun cs (p:Value × Nat)=>cs.setIfInBounds (off+p.2) p.1) vs=putRow vs (off+j) us:=by
     intro us
     induction us with
     | nil=>intros;rfl
     | cons u us ih =>
       intro vs off j hh;simp only[aO]at hh;simp only[List.zipIdx_cons,List.foldl_cons,putRow];exact ih _ off (j+1) (by simp;omega)
    have XP:(a.eval x).cells.zipIdx.foldl (fun cs (p:Value × Nat)=>cs.setIfInBounds (i*el.sz+p.2) p.1) vs=putRow vs (i*el.sz) (a.eval x).cells.toList:=by
     have:=hput (a.eval x).cells.toList vs (i*el.sz) 0 (by simp;omega);rw[<-Array.foldl_toList,Array.toList_zipIdx];simpa using this
    obtain⟨xs',us,r1,r2,r3,r4,r5,r6⟩:=ih ps' (xs.set i (ax.ev e)) (putRow vs (i*el.sz) (a.eval x).cells.toList) K h3 (by rw[size_putRow];simpa using hs)
     (fun j c hj hc => by
       simp only[dN]at hj;rw[oI _ _ _ (by simp;omega)];simp only[ff,<-c1,f2];by_cases ej:j=i
       ·subst ej;rw[au ae,show(xs.set j (ax.ev e)).getD j .undef=ax.ev e by simp[k2],show j*el.sz+c-j*el.sz=c by omega,← f3 c hc];simpa using c2 c ae
       ·have hne : ¬ (i * el.sz <= j * el.sz + c /\ j * el.sz + c < i * el.sz + el.sz) := by
         rintro⟨q1,q2⟩;rcases Nat.lt_or_gt_of_ne ej with h2|h2
         ·have:(j+1)*el.sz<=i*el.sz:=bR _ h2;rw[eH]at this;omega
         have:(i+1)*el.sz<=j*el.sz:=bR _ h2;rw[eH]at this;omega
        rw[aj hne,show(xs.set i (ax.ev e)).getD j .undef=xs.getD j .undef by simp[aF (Ne.symm ej)]];exact hh j c hj hc)
     (fun j hj => by
       simp only[dN]at hj;by_cases ej:j=i
       ·subst ej;simpa[k2]using k1
       ·have:=hf j hj;simpa[aF (Ne.symm ej)]using this) k3
    refine⟨xs',us,?_,r2,by rw[r3];simp,r4,r5,r6⟩;simp only[bB,Instr.fill];have e1:¬ ((a.eval x).cells.size≠el.sz\/vs.size<i*el.sz+(a.eval x).cells.size):=ae;rw[aj (by simpa using e1),XP];exact r1
   ·cases h
def Lg {el : El} {z : AV} {v : Value} (n : Nat) (hz : VR g w z v) (hf : z.fits el = true) (hv : v.cells.size = el.sz) :
    jM g w el (List.replicate n z) ((Array.range (n*el.sz)).map (v.cells[· % v.cells.size]!)):=by
 intro i c hi hc;simp only[gC]at hi;have h2:=oZ hi hc;obtain⟨f1,f2,f3⟩:=Lf hf;obtain⟨c1,c2⟩:=nx hz f1;have h3:(i*el.sz+c) % el.sz=c:=by rw[Nat.mul_comm,Nat.mul_add_mod];exact Nat.mod_eq_of_lt hc
 have:=c2 c ae;rw[f3 c hc]at this;have e1:(List.replicate n z).getD i .undef=z:=by simp[hi]
 rw[e1]
 have e2:((Array.range (n*el.sz)).map (v.cells[· % v.cells.size]!)).getD (i*el.sz+c) Go.undef=v.cells.getD c Go.undef:=by
  have h4:c<v.cells.size:=ae;have h5:v.cells[c]! = v.cells[c]:=getElem!_pos v.cells c h4;have h6:v.cells.getD c Go.undef=v.cells[c]:=by rw[<-eE (h:=h4)]
  rw[h6,<-h5];simp[h2,hv,h3]
 rw[e2];exact this
def Iq{e:TypeId}{el:El}{z:AV}(he:kr P e=some el)(hz:mq P e=some z): ∃ v,(∀ w,(zeroValue e).run P w = .ok v w)/\(∀ g w,VR g w z v)/\v.cells.size=el.sz:=by
 obtain⟨fi,hi,_,hs,_,_,_,v,hv,hvs⟩:=jb he;simp only[mq,hi,hv,Option.bind_some]at hz;exact⟨v,fun w=>by simp[zeroValue,run_typeInfo hi,hv],fun g w=>(M5 hz g w).1,hvs⟩
def V6 (hR : Rel g w σ) (e : TypeId) {el : El} {zs : List AV} {vs : Array Value} {cap : Nat} (k1 : zs.length <= cap) (k2 : vs.size = cap * el.sz) (k3 : jM g w el zs vs) (k4 : ∀ i, i < zs.length -> (zs.getD i .undef).fits el = true) :
    ∃ g', Rel g' (World.alloc w (.cells vs e)) (σ ++ [.vec el zs]) /\ gE σ g w (σ ++ [.vec el zs]) g' (World.alloc w (.cells vs e)) /\
      VR g' (World.alloc w (.cells vs e)) (.own el σ.length zs.length 0 zs.length) (.slice (some ⟨w.heap.size,0,none⟩) zs.length cap):=by
 have hm:=mH g w (.cells vs e) zs.length (some w.heap.size) cap hR.lt
 obtain⟨r1,r2⟩:=hR.tT (.cells vs e) (.vec el zs) zs.length cap
  ⟨by simp[aN.push],k4,.inr ⟨w.heap.size,vs,by simp[aN.push],q8 _ vs e,by simp[aN.push,k2],by simp[aN.push,k1],fun i c hi hc=>by simp only[aN.push,if_true,bL];exact(k3 i c hi hc).mono hm,trivial⟩⟩
 exact⟨_,r1,r2,.own _ _ _ _ _ _ ⟨by simp[aN.push,hR.len],by simp[aN.push,hR.len],_,_,rfl,fun _=>⟨ae,by simp[aN.push,hR.len],fun _=>by simp[aN.push,hR.len]⟩⟩⟩
def afP (hR : Rel g w σ) (e : TypeId) {el : El} {zs : List AV} {vs : Array Value} (k2 : vs.size = zs.length * el.sz) (k3 : jM g w el zs vs) (k4 : ∀ i, i < zs.length -> (zs.getD i .undef).fits el = true) :
    ∃ g', Rel g' (World.alloc w (.cells vs e)) σ /\ gE σ g w σ g' (World.alloc w (.cells vs e)) /\
      VR g' (World.alloc w (.cells vs e)) (.aR true el zs) (.slice (some ⟨w.heap.size,0,none⟩) zs.length zs.length):=by
 have hm:=vL g w (.cells vs e) hR.lt;obtain⟨r1,r2⟩:=hR.Rw (.cells vs e)
 have hcell:∀ i c,i<zs.length->c<el.sz->(World.alloc w (.cells vs e)).cell? ⟨w.heap.size,0+(i*el.sz+c),none⟩=some (vs.getD (i*el.sz+c) Go.undef):=fun i c hi hc=>by
  have h2:=oZ hi hc;rw[bL];exact(q8 w vs e).cell ae
 exact⟨_,r1,r2,.aR true el zs w.heap.size 0 zs.length (.inr rfl) (fun _=>rfl) (Nat.le_refl _) k4 (fun i c hi hc=>by rw[hcell i c hi hc];rfl) (fun i c hi hc=>by unfold eT;rw[hcell i c hi hc];exact(k3 i c hi hc).mono hm)⟩
def RJ {t e : TypeId} {el : El} {z : AV} {mt : Bool} {n : Nat} {en : Env} {a : Act} {nt : Nat} {parts : Array (Nat × Operand)} {ps : List (Nat × AX)} (hR : Rel g w σ) (hE : iJ nt g w en a.tmps)
    (hu:P.underlying t=some (.slice e)) (he:kr P e=some el) (hz:mq P e=some z) (hn:n*el.sz<=2^24) (OO:z.fits el=true) (hp:qZ nt some parts.toList=some ps)
    (hK:mI el (List.replicate n z) en ps fun xs=>if mt then K (.own el σ.length n 0 n) (σ++[.vec el xs])else K (.aR true el xs) σ) :
    bX P (Instr.buildSlice t n (parts.map fun(i,x)=>(i,a.eval x))) g w σ K:=by
 obtain⟨v,z1,z2,z3⟩:=Iq he hz;obtain⟨fi,hi,_,hs,_⟩:=jb he
 obtain⟨xs,us,r1,r2,r3,r4,r5,r6⟩:=UD (g:=g) (w:=w) (el:=el) hE parts.toList ps (List.replicate n z) ((Array.range (n*el.sz)).map (v.cells[· % v.cells.size]!)) _ hp aQ (Lg n (z2 g w) OO z3)
  (fun i hi=>by simp only[gC]at hi;simpa[hi]using OO) hK
 simp only[gC]at r3
 have run:(Instr.buildSlice t n (parts.map fun(i,x)=>(i,a.eval x))).run P w = .ok (.slice (some ⟨w.heap.size,0,none⟩) n n) (World.alloc w (.cells us e)):=by
  have hn':¬ (n*el.sz>2^24):=ae
  have HA:Instr.fill (fun i=>some (i*el.sz,el.sz)) ((Array.range (n*el.sz)).map (v.cells[· % v.cells.size]!)) (parts.map fun(i,x)=>(i,a.eval x)).toList=some us:=by
   rw[<-r1];congr 1;simp
  simp only[Instr.buildSlice,Sem.run_bind,bn hu,Result.andThen_ok,ep hi,hs,aj hn'];by_cases h0:n*el.sz=0
  ·simp only[au h0];rw[Sem.run_bind,Sem.run_pure,Result.andThen_ok]
   have ahp:Instr.fill (fun i=>some (i*el.sz,el.sz)) ((Array.range (n*el.sz)).map ((#[]:Array Value)[· % (#[]:Array Value).size]!)) (parts.map fun(i,x)=>(i,a.eval x)).toList=some us:=by
    rw[<-HA];congr 1;simp[h0]
   rw[ahp];rfl
  simp only[aj h0];rw[Sem.run_bind,z1,Result.andThen_ok,Sem.run_bind,Sem.run_pure,Result.andThen_ok];rw[HA];rfl
 cases mt with
 | true =>
   simp only[if_true]at r6;obtain⟨g',q1,q2,q3⟩:=V6 hR e (cap:=n) ae (by rw[r2,r3]) r4 r5;rw[r3]at q3;exact⟨_,_,g',_,_,run,q1,q2,q3,r6⟩
 | false =>
   simp only[aP,if_false]at r6;obtain⟨g',q1,q2,q3⟩:=afP hR e r2 r4 r5;rw[r3]at q3;exact⟨_,_,g',_,_,run,q1,q2,q3,r6⟩
def Qu {t e : TypeId} {el : El} {z x y : AV} {a b : Value} (hR : Rel g w σ) (hu : P.underlying t = some (.slice e)) (he : kr P e = some el) (hz : mq P e = some z) (hx : VR g w x a) (hy : VR g w y b)
    (hK : match (generalizing := false) x, y with
      | .int .i64 k,.int .i64 m=>z.fits el=true/\0<=k/\k<=m/\m*(el.sz+1)<=2^40/\K (.own el σ.length k.toNat 0 k.toNat) (σ++[.vec el (List.replicate k.toNat z)])
      | _,_=>False):bX P (Instr.makeSlice t a b) g w σ K:=by
 obtain⟨v,z1,z2,z3⟩:=Iq he hz;obtain⟨fi,hi,_,hs,_,hb,hsz,_⟩:=jb he;cases hx<;>(try exact False.elim hK);rename_i k1 k;cases hy<;>(try (cases k1<;>exact False.elim hK));rename_i k2 m;cases k1<;>(try exact False.elim hK);cases k2<;>(try exact False.elim hK);simp only at hK;obtain⟨h1,h2,h3,h4,h5⟩:=hK;obtain⟨k,rfl⟩:=Int.eq_ofNat_of_zero_le h2;obtain⟨m,rfl⟩:=Int.eq_ofNat_of_zero_le (Int.le_trans h2 h3);have h4':m*(el.sz+1)<=2^40:=by exact_mod_cast h4
 have hm:m<=2^40:=cR (Nat.le_mul_of_pos_right m ae) h4';have h40:(2:Nat) ^ 40=1099511627776:=cW;have hkm:k<=m:=ae;have afh:∀ j:Nat,j<=m->IntKind.i64.wrap (j:Int)=j:=fun j hj=>IntWalk.i64_in _ ae
 have Z_:fi.bytes*m<=2^48:=by
  have h6:fi.bytes*m<=24*(el.sz+1)*m:=bR _ hb;have h7:24*(el.sz+1)*m=24*(m*(el.sz+1)):=by rw[Nat.mul_assoc,Nat.mul_comm (el.sz+1) m]
  have h48:(2:Nat) ^ 48=281474976710656:=cW;omega
 have V7:∀ j:Nat,j<=m->((decide ((j:Int)<0) || decide (((fi.bytes:Nat):Int)*(j:Int)>2^48))=false):=fun j hj=>by
  have:fi.bytes*j<=2^48:=cR (Nat.mul_le_mul_left _ hj) Z_;have h9:((fi.bytes:Nat):Int)*(j:Int)<=2^48:=by exact_mod_cast this
  simp only[Bool.or_eq_false_iff,decide_eq_false_iff_not];exact⟨ae,ae⟩
 have als:((Array.range (m*el.sz)).map (v.cells[· % v.cells.size]!)).size=m*el.sz:=aQ
 obtain⟨g',q1,q2,q3⟩:=V6 hR e (el:=el) (zs:=List.replicate k z) (vs:=(Array.range (m*el.sz)).map (v.cells[· % v.cells.size]!)) (cap:=m) (by simpa using hkm) als
  (fun i c hi hc => by
    have:=Lg m (z2 g w) h1 z3 i c (by simp at hi |-;omega) hc;simp only[gC]at hi;rw[show (List.replicate k z).getD i .undef=z by simp[hi]];rwa[show (List.replicate m z).getD i .undef=z by simp[show i<m by omega]]at this)
  (fun i hi=>by simp only[gC]at hi;simpa[hi]using h1)
 simp only[gC]at q3;refine⟨_,_,g',_,_,?_,q1,q2,q3,by simpa using h5⟩;unfold Instr.makeSlice;simp only[Sem.run_bind,bn hu,Result.andThen_ok,asInt,asIntOf,Sem.run_pure,run_typeInfo hi,afh k hkm,afh m (bg _)]
 have ajL:¬ (((decide ((m:Int)<0) || decide (((fi.bytes:Nat):Int)*(m:Int)>2^48)) || decide ((k:Int)<0) || decide ((k:Int)>(m:Int)))=true):=by
  rw[V7 m (bg _)];simp;omega
 rw[aj ajL];simp only[Sem.run_bind,run_askRoom,Result.andThen_ok,ep hi,hs,Int.toNat_natCast];by_cases h0:m*el.sz=0
 ·simp only[au h0,Sem.run_pure,Result.andThen_ok,newRow,Sem.run_bind,run_newObj];have e9:∀ f:Nat->Value,(Array.range (m*el.sz)).map f = #[]:=fun f=>by simp[h0]
  rw[e9,e9];rfl
 simp only[aj h0,Sem.run_bind,z1,Result.andThen_ok,Sem.run_pure,newRow,run_newObj];rfl
def aac {t u e : TypeId} {x : AV} {a : Value} (hR : Rel g w σ) (hs : P.underlying t = some (.slice e)) (hu : P.underlying u = some .string) (he : P.underlying e = some (.int .u8)) (hx : VR g w x a)
    (hK:gN σ ⟨false,1⟩ x fun xs=> ∃ s:List UInt8,xs=s.map (fun b=>AV.int .u8 b.toNat)/\K (.str s) σ) (hsl:∃ A n c,a = .slice A n c):bX P (convert t u a) g w σ K:=by
 obtain⟨xs,us,⟨s,hxs,hK⟩,hl,wW,hsz,hh⟩:=oq (P:=P) hR hx hK;obtain⟨A,n,c,rfl⟩:=hsl;subst hxs;simp only[cZ,jd]at hl wW hsz
 have Fw:us=(s.map fun b=>Value.int .u8 b.toNat).toArray:=by
  apply Array.ext
  ·simp[hsz]
  intro i h1 h2;have:=hh i 0 (by simp;omega) aQ;simp only[jd,eZ]at this;rw[<-eE (h:=h1)]at this;have h3:i<s.length:=ae;have e1:((s.map fun b=>AV.int .u8 b.toNat).getD i .undef).cell 0 = .int .u8 (s[i]).toNat:=by simp[h3,AV.cell]
  rw[e1]at this;cases h4:us[i]with
  | int k m=>rw[h4]at this;cases this;simp
  | _=>rw[h4]at this;cases this
 simp only[Builtin.lenOf,Sem.run_pure]at hl;cases hl
 have loop:∀ (f:Value->ByteArray->Sem (ForInStep ByteArray)),(∀(b:UInt8) (r:ByteArray),f (.int .u8 b.toNat) r=Pure.pure (.yield (r.push b)))-> ∀(l:List UInt8) (acc:ByteArray) (w:World),(forIn (l.map fun b=>Value.int .u8 b.toNat) acc f).run P w = .ok (l.foldl ByteArray.push acc) w:=by
  intro f hf l
  induction l with
  | nil=>intro acc w;rfl
  | cons b l ih =>
    intro acc w;simp only[bB,List.forIn_cons,hf,Sem.run_bind,Sem.run_pure,Result.andThen_ok,List.foldl_cons];exact ih _ w
 have ajM:∀ (l:List UInt8) (acc:ByteArray),(l.foldl ByteArray.push acc)=⟨acc.data++l.toArray⟩:=by
  intro l
  induction l with
  | nil=>intro acc;simp
  | cons b l ih=>intro acc;rw[List.foldl_cons,ih];simp[ByteArray.push]
 refine bX.pure hR (v:= .string ⟨s.toArray⟩) ?_ (.str s) hK;simp only[convert,Sem.run_bind,bn hs,bn hu,Result.andThen_ok,bn he];cases A with
 | none =>
   have:s=[]:=by
    have:=wW w rfl;simp only[Builtin.firstCells,Sem.run_pure]at this;cases this;have:(0:Nat)=s.length:=by simpa using hsz
    exact eP this.symm
   subst this;rfl
 | some A =>
   have h1:=wW w rfl;simp only[Builtin.firstCells,jd]at h1;simp only[Conv.bytesToString,Sem.run_bind,h1,Result.andThen_ok];rw[Fw,<-Array.forIn_toList];rw[show (List.map (fun b=>Value.int .u8 (b.toNat:Int)) s).toArray.toList=List.map (fun b=>Value.int .u8 (b.toNat:Int)) s from rfl];rw[loop _ (fun b r=>by simp) s ByteArray.empty w,ajM];simp
def aad {op : BinOp} {t : TypeId} {ox oy : Operand} (hop : op = .eql \/ op = .neq) (hc : lU ox = true \/ lU oy = true) (a b : Value) (ha : ∀ cs, a ≠ .agg cs) (w : World) :
    (eqGuard op t ox oy a b).run P w = .ok () w:=by
 by_cases h:a = .nilIface/\b = .nilIface
 ·obtain⟨rfl,rfl⟩:=h;rcases hc with h|h
  ·cases ox <;> simp only [lU] at h <;> first
    |(cases h;done)
    |(rcases hop with rfl|rfl<;>rfl)
  ·cases oy <;> simp only [lU] at h <;> first
    |(cases h;done)
    |(rcases hop with rfl|rfl<;>cases ox<;>rfl)
 rcases hop with rfl|rfl<;>cases a<;>first
  | exact absurd rfl (ha _)
  | rfl
  |(cases b<;>first|rfl|exact absurd ⟨rfl,rfl⟩ h)
def Fx {t : TypeId} {ms : Array (String × TypeId)} (hu : P.underlying t = some (.interface ms)) (u : TypeId) (x : Value) (D : Nat) (w : World) :
    (Op.equalIn (D+1) t .nilIface .nilIface).run P w = .ok true w/\(Op.equalIn (D+1) t .nilIface (.iface u x)).run P w = .ok false w/\(Op.equalIn (D+1) t (.iface u x) .nilIface).run P w = .ok false w:=by
 refine⟨?_,?_,?_⟩<;>simp[Op.equalIn,bn hu]
def Jt {t : TypeId} {ps rs : Array TypeId} {vd : Bool} (hu : P.underlying t = some (.func ps rs vd)) (u : Fn) (x y : Array Value) (D : Nat) (w : World) :
    (Op.equalIn (D+1) t .nilFunc .nilFunc).run P w = .ok true w/\(Op.equalIn (D+1) t .nilFunc (.func u x y)).run P w = .ok false w/\(Op.equalIn (D+1) t (.func u x y) .nilFunc).run P w = .ok false w:=by
 refine⟨?_,?_,?_⟩<;>simp[Op.equalIn,bn hu]
def OP {t : TypeId} {kt et : TypeId} (hu : P.underlying t = some (.map kt et)) (p : Option Nat) (D : Nat) (w : World) :
    (Op.equalIn (D+1) t (.map none) (.map p)).run P w = .ok p.isNone w/\(Op.equalIn (D+1) t (.map p) (.map none)).run P w = .ok p.isNone w:=by
 constructor
 ·simp[Op.equalIn,bn hu]
 ·cases p<;>simp[Op.equalIn,bn hu]
def Ir {op : BinOp} {t : TypeId} {k : NK} {x y : AV} {a b : Value} {ox oy : Operand} {d : TypeDesc} (hop : op = .eql \/ op = .neq) (hR : Rel g w σ) (hu : P.underlying t = some d)
    (hd:M3 d=some k) (hc:lU ox=true\/lU oy=true) (hx:VR g w x a) (hy:VR g w y b)
    (hK : match (generalizing := false) pH k x y with
      | some r=>K (.bool (if op = .neq then !r else r)) σ
      | none=>False):bX P (do eqGuard op t ox oy a b;binOp op t a b) g w σ K:=by
 have fin:∀ r,(eqGuard op t ox oy a b).run P w = .ok () w->(Op.equalIn 10000 t a b).run P w = .ok r w->(∀ k n,a≠ .int k n)->(∀ k n,a≠ .float k n)->(∀ k n m,a≠ .complex k n m)->(∀ s,a≠ .string s) ->
  K (.bool (if op = .neq then !r else r)) σ->bX P (do eqGuard op t ox oy a b;binOp op t a b) g w σ K:=by
  intro r h1 h2 n1 n2 n3 n4 hk;refine bX.pure hR (v:= .bool (if op = .neq then !r else r)) ?_ (.bool _) hk;simp only[Sem.run_bind,h1,Result.andThen_ok]
  have e1:(binOp .eql t a b).run P w = .ok (.bool r) w:=by
   cases a<;>first
    | exact absurd rfl (n1 _ _)
    | exact absurd rfl (n2 _ _)
    | exact absurd rfl (n3 _ _ _)
    | exact absurd rfl (n4 _)
    | simp[binOp,Op.equal,Op.maxDepth,h2]
  have e2:(binOp .neq t a b).run P w = .ok (.bool (!r)) w:=by
   cases a<;>first
    | exact absurd rfl (n1 _ _)
    | exact absurd rfl (n2 _ _)
    | exact absurd rfl (n3 _ _ _)
    | exact absurd rfl (n4 _)
    | simp[binOp,Op.equal,Op.maxDepth,h2]
  rcases hop with rfl|rfl
  ·exact e1
  exact e2
 have sR:∀ (_:True),(∀ cs,a≠ .agg cs)->(eqGuard op t ox oy a b).run P w = .ok () w:=fun _ ha=>aad hop hc a b ha w;cases d<;>simp only[M3]at hd<;>(try cases hd)
 case pointer.refl elem =>
  have alu:∀ p:Option Addr,(Op.equalIn 10000 t (.pointer none) (.pointer p)).run P w = .ok p.isNone w:=fun p=>(OM hu p 9999).1;have alv:∀ p:Option Addr,(Op.equalIn 10000 t (.pointer p) (.pointer none)).run P w = .ok p.isNone w:=fun p=>(OM hu p 9999).2
  have ptr:∀ (z:AV) (v:Value) (r:Bool),VR g w z v->qd .p z=some r-> ∃ p,v = .pointer p/\p.isNone=r:=by
   intro z v r hz h;cases hz<;>simp only[qd]at h<;>(try cases h)
   case ref.refl h=>obtain⟨_,A,rfl,_⟩:=h;exact⟨_,rfl,rfl⟩
   case fh.refl=>exact⟨_,rfl,rfl⟩
   case fG.refl h=>obtain⟨_,_,A,rfl,_⟩:=h;exact⟨_,rfl,rfl⟩
   case gO.refl=>exact⟨_,rfl,rfl⟩
  simp only[pH]at hK;split at hK
  ·rename_i r hr;split at hr
   ·rename_i r' h1 h2;cases hr;obtain⟨p,rfl,hp⟩:=ptr _ _ _ hx h1;obtain⟨q,rfl,hq⟩:=ptr _ _ _ hy h2;have:p=none:=by simpa using hp
    subst this;exact fin _ (sR trivial aQ) (by rw[alu,hq]) aQ aQ aQ aQ hK
   ·rename_i h1 h2;cases hr;obtain⟨p,rfl,hp⟩:=ptr _ _ _ hx h1;obtain⟨q,rfl,hq⟩:=ptr _ _ _ hy h2;have:q=none:=by simpa using hq
    subst this;exact fin _ (sR trivial aQ) (by rw[alv,hp]) aQ aQ aQ aQ hK
   ·cases hr
  exact hK.elim
 case interface.refl ms =>
  have kZ:∀ (z:AV) (v:Value) (r:Bool),VR g w z v->qd .i z=some r->(r=true/\v = .nilIface)\/(r=false/\ ∃ u x,v = .iface u x):=by
   intro z v r hz h;cases hz<;>simp only[qd]at h<;>(try cases h)
   case jR.refl=>exact .inl ⟨rfl,rfl⟩
   case kZ.refl=>exact .inr ⟨rfl,_,_,rfl⟩
  simp only[pH]at hK;split at hK
  ·rename_i r hr;split at hr
   ·rename_i r' h1 h2;cases hr;rcases kZ _ _ _ hx h1 with⟨_,rfl⟩|⟨e,_⟩
    ·rcases kZ _ _ _ hy h2 with⟨rfl,rfl⟩|⟨rfl,u,v,rfl⟩
     ·exact fin true (sR trivial aQ) (Fx hu 0 .nilIface 9999 w).1 aQ aQ aQ aQ hK
     exact fin false (sR trivial aQ) (Fx hu u v 9999 w).2.1 aQ aQ aQ aQ hK
    ·cases e
   ·rename_i h1 h2;cases hr;rcases kZ _ _ _ hx h1 with⟨e,_⟩|⟨_,u,v,rfl⟩
    ·cases e
    rcases kZ _ _ _ hy h2 with⟨_,rfl⟩|⟨e,_⟩
    ·exact fin false (sR trivial aQ) (Fx hu u v 9999 w).2.2 aQ aQ aQ aQ hK
    ·cases e
   ·cases hr
  exact hK.elim
 case func.refl ps rs vd =>
  have fnk:∀ (z:AV) (v:Value) (r:Bool),VR g w z v->qd .f z=some r->(r=true/\v = .nilFunc)\/(r=false/\ ∃ u x y,v = .func u x y):=by
   intro z v r hz h;cases hz<;>simp only[qd]at h<;>(try cases h)
   case nQ.refl=>exact .inl ⟨rfl,rfl⟩
   case fn.refl=>exact .inr ⟨rfl,_,_,_,rfl⟩
  simp only[pH]at hK;split at hK
  ·rename_i r hr;split at hr
   ·rename_i r' h1 h2;cases hr;rcases fnk _ _ _ hx h1 with⟨_,rfl⟩|⟨e,_⟩
    ·rcases fnk _ _ _ hy h2 with⟨rfl,rfl⟩|⟨rfl,u,v,z,rfl⟩
     ·exact fin true (sR trivial aQ) (Jt hu (.func 0) #[] #[] 9999 w).1 aQ aQ aQ aQ hK
     exact fin false (sR trivial aQ) (Jt hu u v z 9999 w).2.1 aQ aQ aQ aQ hK
    ·cases e
   ·rename_i h1 h2;cases hr;rcases fnk _ _ _ hx h1 with⟨e,_⟩|⟨_,u,v,z,rfl⟩
    ·cases e
    rcases fnk _ _ _ hy h2 with⟨_,rfl⟩|⟨e,_⟩
    ·exact fin false (sR trivial aQ) (Jt hu u v z 9999 w).2.2 aQ aQ aQ aQ hK
    ·cases e
   ·cases hr
  exact hK.elim
 case map.refl kt et =>
  have mpk:∀ (z:AV) (v:Value) (r:Bool),VR g w z v->qd .m z=some r-> ∃ p,v = .map p/\p.isNone=r:=by
   intro z v r hz h;cases hz<;>simp only[qd]at h<;>(try cases h)
   case iS.refl=>exact⟨_,rfl,rfl⟩
   case mp.refl h=>obtain⟨_,A,rfl,_⟩:=h;exact⟨_,rfl,rfl⟩
  simp only[pH]at hK;split at hK
  ·rename_i r hr;split at hr
   ·rename_i r' h1 h2;cases hr;obtain⟨p,rfl,hp⟩:=mpk _ _ _ hx h1;obtain⟨q,rfl,hq⟩:=mpk _ _ _ hy h2;have:p=none:=by simpa using hp
    subst this;exact fin _ (sR trivial aQ) (by rw[<-hq];exact(OP hu q 9999 w).1) aQ aQ aQ aQ hK
   ·rename_i h1 h2;cases hr;obtain⟨p,rfl,hp⟩:=mpk _ _ _ hx h1;obtain⟨q,rfl,hq⟩:=mpk _ _ _ hy h2;have:q=none:=by simpa using hq
    subst this;exact fin _ (sR trivial aQ) (by rw[<-hp];exact(OP hu p 9999 w).2) aQ aQ aQ aQ hK
   ·cases hr
  exact hK.elim
def RL{t e:TypeId}(hu:P.underlying t=some (.slice e))(p:Option Addr)(n cap D:Nat)(w:World): (Op.equalIn (D+1) t (.slice p n cap) (.slice none 0 0)).run P w = .ok p.isNone w:=by
 cases p<;>simp[Op.equalIn,bn hu]
def XR {op : BinOp} {t e : TypeId} {x : AV} {a : Value} {ox oy : Operand} (hop : op = .eql \/ op = .neq) (hR : Rel g w σ) (hu : P.underlying t = some (.slice e)) (hx : VR g w x a)
    (hK:uD σ x fun r=>K (.bool (if op = .neq then !r else r)) σ):bX P (do eqGuard op t ox oy a (.slice none 0 0);binOp op t a (.slice none 0 0)) g w σ K:=by
 have fin:∀ (p:Option Addr) (n cap:Nat),K (.bool (if op = .neq then !p.isNone else p.isNone)) σ->bX P (do eqGuard op t ox oy (.slice p n cap) (.slice none 0 0);binOp op t (.slice p n cap) (.slice none 0 0)) g w σ K:=by
  intro p n cap hk;have h2:(Op.equalIn 10000 t (.slice p n cap) (.slice none 0 0)).run P w = .ok p.isNone w:=RL hu p n cap 9999 w;have h1:(eqGuard op t ox oy (.slice p n cap) (.slice none 0 0)).run P w = .ok () w:=by rcases hop with rfl|rfl<;>rfl
  refine bX.pure hR (v:= .bool (if op = .neq then !p.isNone else p.isNone)) ?_ (.bool _) hk;simp only[Sem.run_bind,h1,Result.andThen_ok];rcases hop with rfl|rfl<;>simp[binOp,Op.equal,Op.maxDepth,h2]
 unfold uD at hK;cases hx<;>(try exact False.elim hK)
 case aV=>exact fin none 0 0 hK
 case aR f el xs b off cap Fq hf Ad ft hc h =>
  cases xs with
  | nil=>exact False.elim hK
  | cons x xs=>exact fin (some _) _ _ hK
 case mg el p n A cap hn hc h=>exact fin (some A) n cap hK
 case own el l m lo n h =>
  obtain⟨q1,q2,A,cap,rfl,q3⟩:=h;dsimp only at hK;split at hK
  ·rename_i T bD xs hxs;obtain⟨rfl,hn,hK⟩:=hK;obtain⟨o1,o2,o3⟩:=hR.ok l _ hxs;obtain⟨q4,q5,q6⟩:=q3 o1.symm;rcases o3 with⟨rfl,_,_⟩|⟨b,vs,b1,b2,b3,b4,b5⟩
   ·simp at q4;omega
   have q7:=q6 ae;rw[b1]at q7;simp only[dh]at q7;subst q7;exact fin (some _) n cap hK
  exact hK.elim
def Lh {op : BinOp} {t e : TypeId} {x : AV} {a : Value} {ox oy : Operand} (hop : op = .eql \/ op = .neq) (hR : Rel g w σ) (hu : P.underlying t = some (.slice e)) (hx : VR g w x a)
    (hK:Hw σ x fun r=>K (.bool (if op = .neq then !r else r)) σ):bX P (do eqGuard op t ox oy a (.slice none 0 0);binOp op t a (.slice none 0 0)) g w σ K:=by
 have fin:∀ (p:Option Addr) (n cap:Nat),K (.bool (if op = .neq then !p.isNone else p.isNone)) σ->bX P (do eqGuard op t ox oy (.slice p n cap) (.slice none 0 0);binOp op t (.slice p n cap) (.slice none 0 0)) g w σ K:=by
  intro p n cap hk;have h2:(Op.equalIn 10000 t (.slice p n cap) (.slice none 0 0)).run P w = .ok p.isNone w:=RL hu p n cap 9999 w;have h1:(eqGuard op t ox oy (.slice p n cap) (.slice none 0 0)).run P w = .ok () w:=by rcases hop with rfl|rfl<;>rfl
  refine bX.pure hR (v:= .bool (if op = .neq then !p.isNone else p.isNone)) ?_ (.bool _) hk;simp only[Sem.run_bind,h1,Result.andThen_ok];rcases hop with rfl|rfl<;>simp[binOp,Op.equal,Op.maxDepth,h2]
 by_cases he:∃ f el,x = .aR f el []
 ·obtain⟨f,el,rfl⟩:=he;obtain⟨k1,k2⟩:=(show _/\_ from hK)
  have both:∀ p:Option Addr,K (.bool (if op = .neq then !p.isNone else p.isNone)) σ:=fun p=>by
   cases p
   ·exact k1
   exact k2
  cases hx with
  | iT f el b cap hf=>exact fin b 0 cap (both b)
  | aR f el xs b off cap Fq hf Ad ft hc h=>exact fin (some _) _ _ k2
 replace hK:uD σ x fun r=>K (.bool (if op = .neq then !r else r)) σ:=by
  unfold Hw at hK;split at hK
  ·exact absurd ⟨_,_,rfl⟩ he
  exact hK
 exact XR hop hR hu hx hK
end
section
variable {P:Program} {g:aN} {w:World} {σ : ai} {K:AV->ai->Prop}
def aae {ats : Array TypeId} {ty : TypeId} {el : El} {x : AV} {a : Value} (hR : Rel g w σ) (hx : VR g w x a)
    (hK : match (generalizing := false) x with
      | .aV=>K .gO σ
      | .own bD l m lo n => bD = el /\ match σ[l]? with
        | some (.dn _ bN xs)=>bN=el/\m=xs.length/\0<n/\K (.fG el l m lo 0) σ
        | _=>False
      | _=>False):bX P (Builtin.unsafeSliceData_ ats ty #[a]) g w σ K:=by
 cases hx<;>simp only at hK
 case aV=>exact bX.pure hR (Lib.run_unsafeSliceData_nil (P:=P) w ats ty 0 0) .gO hK
 case own bD l m lo n h =>
  obtain⟨rfl,hK⟩:=hK;obtain⟨q1,q2,A,cap,rfl,q3⟩:=h;split at hK
  ·rename_i T bN xs hxs;obtain⟨rfl,rfl,hn,hK⟩:=hK;obtain⟨o1,o2,o3⟩:=hR.ok l _ hxs;obtain⟨q4,q5,q6⟩:=q3 o1.symm;rcases o3 with⟨rfl,_,_⟩|⟨b,vs,b1,b2,b3,b4,b5,_⟩
   ·simp at q4;omega
   have q7:=q6 ae;rw[b1]at q7;simp only[dh]at q7;subst q7;exact bX.pure hR (Lib.run_unsafeSliceData_row (P:=P) w ats ty _ n cap ae) (.fG _ _ _ _ _ _ ⟨q1,q2,_,rfl,fun _=>⟨b1,rfl⟩⟩) hK
  exact hK.elim
def M7(w:World)(b n:Nat){c:Nat}(h:c≠b): (w.freeze ⟨b,0,none⟩ n).heap[c]? = w.heap[c]?:=by
 unfold World.freeze;split
 ·rfl
 simp only[Array.getElem?_modify];rw[aj (Ne.symm h)]
def RM(w:World)(b n:Nat): (w.freeze ⟨b,0,none⟩ n).heap.size=w.heap.size/\(w.freeze ⟨b,0,none⟩ n).os=w.os/\(w.freeze ⟨b,0,none⟩ n).tape=w.tape/\(w.freeze ⟨b,0,none⟩ n).output=w.output:=by
 unfold World.freeze;split
 ·exact⟨rfl,rfl,rfl,rfl⟩
 exact⟨aQ,rfl,rfl,rfl⟩
def XS {pt it ty e : TypeId} {x y : AV} {a b : Value} (hR : Rel g w σ) (hp : P.underlying pt = some (.pointer e)) (hc : P.cellsOf e = 1) (hx : VR g w x a) (hy : VR g w y b)
    (hK : match (generalizing := false) x, y with
      | .gO,.int .i64 k=>k=0/\K (.str []) σ
      | .fG el l m lo off, .int .i64 k => lo = 0 /\ off = 0 /\ el = ⟨false, 1⟩ /\ match σ[l]? with
        | some (.dn T' _ xs)=>T'=some e/\m=xs.length/\0<k/\k<=xs.length/\xs.length<=2^62/\ ∃ s:List UInt8,xs.take k.toNat=s.map (fun b=>AV.int .u8 b.toNat)/\K (.str s) (σ.set l .dead)
        | _=>False
      | _,_=>False):bX P (Builtin.unsafeString_ #[pt,it] ty #[a,b]) g w σ K:=by
 cases hx<;>(try exact False.elim hK)
 case gO =>
  cases hy<;>(try exact False.elim hK);rename_i q k;cases q<;>(try exact False.elim hK);obtain⟨rfl,hK⟩:=hK;exact bX.pure hR (Lib.run_unsafeString_none (P:=P) w pt it ty none) (.str []) hK
 case fG el l m lo off h =>
  cases hy<;>(try exact False.elim hK);rename_i q k;cases q<;>(try exact False.elim hK);obtain⟨rfl,rfl,rfl,hK⟩:=hK;obtain⟨hl,hm,A,rfl,hA⟩:=h;split at hK
  ·rename_i T bN xs hxs;obtain⟨rfl,rfl,k1,k2,k3,s,k4,hK⟩:=hK;obtain⟨o1,o2,o3⟩:=hR.ok l _ hxs;rcases o3 with⟨rfl,_,_⟩|⟨b,vs,b1,b2,b3,b4,b5,b6⟩
   ·simp at k2;omega
   obtain⟨a1,a2⟩:=hA o1.symm;have hb:A.block=b:=by rw[a1]at b1;cases b1;rfl
   rw[hb]at a2;obtain⟨b6,hz⟩:=b6;rw[hz]at a2 b3 b5;simp only[Nat.zero_mul,bL,eZ]at a2 b3 b5;subst a2;obtain⟨n,rfl⟩:=Int.eq_ofNat_of_zero_le (Int.le_of_lt k1);simp only[Int.toNat_natCast]at k4
   have hn:s.length=n:=by
    have:=aW List.length k4;simp only[dW,cZ]at this;omega
   have hfit:∀ i,i<xs.length->bN.sz=1:=fun i hi=>by
    have hf:=o2 i hi;have e1:i<n\/n<=i:=ae;have h0:0<n:=ae;have hx0:(xs.take n).getD 0 .undef=(s.map fun b=>AV.int .u8 b.toNat).getD 0 .undef:=by rw[k4]
    have hs0:0<s.length:=ae
    have alw:xs.getD 0 .undef = .int .u8 (s[0]).toNat:=by
     have hlt:0<xs.length:=ae;simpa[h0,hs0,hlt]using hx0
    have:=o2 0 ae;rw[alw]at this;simp only[AV.fits,aD,beq_iff_eq]at this;exact this.2
   have hsz:bN.sz=1:=hfit 0 ae;rw[hsz,jd]at b3
   have hcell:∀ j x,s[j]? = some x->w.cell? ((⟨b,0,none⟩:Addr).add j)=some (.int .u8 x.toNat):=fun j x hj=>by
    have sD:j<s.length:=(aE.1 hj).1;have hjx:s[j]=x:=(aE.1 hj).2;have h2:=b5 j 0 ae ae;rw[hsz]at h2;simp only[jd,eZ]at h2
    have e2:xs.getD j .undef = .int .u8 x.toNat:=by
     have:(xs.take n).getD j .undef=(s.map fun b=>AV.int .u8 b.toNat).getD j .undef:=by rw[k4]
     have hjn:j<n:=ae;have alx:j<xs.length:=ae;simpa[hjn,sD,alx,hjx]using this
    rw[e2]at h2
    have e3:(⟨b,0,none⟩:Addr).add j=⟨b,j,none⟩:=by
     unfold Addr.add;split
     ·rename_i h0;subst h0;rfl
     simp
    rw[e3,b2.cell ae];generalize vs.getD j Go.undef=u at h2;cases h2;rfl
   have hrun:=Lib.run_unsafeString_row (P:=P) w pt it ty e hp hc b vs.size b6 s (by intro e;subst e;simp at hn;omega) ae ae hcell;rw[hn]at hrun;obtain⟨f1,f2,f3,f4⟩:=RM w b n;obtain⟨r1,r2⟩:=hR.update (o':= .dead) hxs rfl b1 f1 f2 f3 f4 (fun c hc=>M7 w b n hc) (fun _=>trivial);exact⟨_,_,g,.str s,_,hrun,r1,r2,.str s,hK⟩
  exact hK.elim
def aaf {src dst t : TypeId} {i : TypeInfo} {x : AV} {a : Value} (hR : Rel g w σ) (hs : P.underlying src = some (.pointer t)) (hd : P.underlying dst = some .unsafePointer) (hi : P.info? t = some i) (h0 : i.size ≠ 0) (hx : VR g w x a)
    (hK : match (generalizing := false) x with
      | .ref l off => match σ[l]? with
        | some (.bY _ cs)=>off<cs.length/\K (.ref l off) σ
        | _=>False
      | _=>False):bX P (convert src dst a) g w σ K:=by
 cases hx<;>simp only at hK
 case ref l off h =>
  have hx':VR g w (.ref l off) a:= .ref _ _ _ h;obtain⟨hl,A,rfl,hA⟩:=h;split at hK
  ·rename_i T cs hcs;obtain⟨hlt,hK⟩:=hK;obtain⟨o1,o2,b,vs,o3,o4,o5,o6,_⟩:=hR.ok l _ hcs;obtain⟨a1,a2⟩:=hA o1;have hb:A.block=b:=by rw[a1]at o3;cases o3;rfl
   obtain⟨T',fz,o4,_⟩:=o4;have hsh:w.shape? A.block=some (T',vs.size):=by simp only[World.shape?,hb,o4]
   refine bX.pure hR (Lib.run_to_unsafe (P:=P) w A hs hd hi h0 hsh (by rw[a2];show off<vs.size;omega)) hx' hK
  exact hK.elim
def aag {src dst u : TypeId} {i : TypeInfo} {x : AV} {a : Value} (hR : Rel g w σ) (hs : P.underlying src = some .unsafePointer) (hd : P.underlying dst = some (.pointer u)) (hi : P.info? u = some i) (hx : VR g w x a)
    (hK : match (generalizing := false) x with
      | .ref l off => match σ[l]? with
        | some (.bY (some T) cs)=>liesAt P P.depth T (cs.length / P.cellsOf T) off u 1=true/\K (.ref l off) σ
        | _=>False
      | _=>False):bX P (convert src dst a) g w σ K:=by
 cases hx<;>simp only at hK
 case ref l off h =>
  have hx':VR g w (.ref l off) a:= .ref _ _ _ h;obtain⟨hl,A,rfl,hA⟩:=h;split at hK
  ·rename_i T cs hcs;obtain⟨hlt,hK⟩:=hK;obtain⟨o1,o2,b,vs,o3,o4,o5,o6,o7⟩:=hR.ok l _ hcs;obtain⟨a1,a2⟩:=hA o1;have hb:A.block=b:=by rw[a1]at o3;cases o3;rfl
   have hsh:w.shape? A.block=some (T,cs.length):=by rw[hb];exact o7
   have hoff:A.off=off:=by rw[a2]
   refine bX.pure hR (Lib.run_from_unsafe (P:=P) w A hs hd hi hsh (by rw[hoff];exact hlt)) hx' hK
  exact hK.elim
def OQ {op : BinOp} {t te : TypeId} {i : TypeInfo} {x y : AV} {a b : Value} {ox oy : Operand} {ng : Bool} (hop : (op = .eql /\ ng = false) \/ (op = .neq /\ ng = true)) (hR : Rel g w σ) (hu : P.underlying t = some (.pointer te)) (hi : P.info? te = some i) (hx : VR g w x a) (hy : VR g w y b)
    (hK : match (generalizing := false) x, y with
      | .ref l o, .ref l' o' => l = l' /\ o = o' /\ match σ[l]? with
        | some (.bY _ _)=>K (.bool ng.not) σ
        | _=>False
      | _,_=>False):bX P (do eqGuard op t ox oy a b;binOp op t a b) g w σ K:=by
 cases hx<;>(try exact False.elim hK);rename_i l o h;cases hy<;>(try exact False.elim hK);rename_i l' o' h';obtain⟨rfl,rfl,hK⟩:=hK;obtain⟨hl,A,rfl,hA⟩:=h;obtain⟨_,A',rfl,x5⟩:=h';split at hK
 ·rename_i T cs hcs;obtain⟨o1,_⟩:=hR.ok l _ hcs;obtain⟨a1,a2⟩:=hA o1;obtain⟨a3,a4⟩:=x5 o1
  have hAA:A'=A:=by
   rw[a1]at a3;have:A.block=A'.block:=Option.some.inj a3;rw[a2,a4,this]
  subst hAA
  have heq:∀ d:Nat,(Op.equalIn (d+1) t (.pointer (some A')) (.pointer (some A'))).run P w = .ok true w:=fun d=>by
   simp[Op.equalIn,run_underlying hu,sizeOf,typeInfo,hi,run_sameAddr_same]
  refine bX.pure hR (v:= .bool ng.not) ?_ (.bool _) hK
  have hg:(eqGuard op t ox oy (.pointer (some A')) (.pointer (some A'))).run P w = .ok () w:=by
   rcases hop with⟨rfl,_⟩|⟨rfl,_⟩<;>rfl
  simp only[Sem.run_bind,hg,Result.andThen_ok];rcases hop with⟨rfl,rfl⟩|⟨rfl,rfl⟩
  ·simp[binOp,Op.equal,Op.maxDepth,heq 9999]
  simp[binOp,Op.equal,Op.maxDepth,heq 9999]
 exact hK.elim
end
