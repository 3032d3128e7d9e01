/- Part. -/
import Derived.Test.YtdohdkdejmhgnaaGreatDoorY01
import Derived.Laws.StructEq
import Derived.ChangeKeysEq
import Derived.IntWalk
set_option linter.all false
namespace Go.AM
section
variable {P:Program} {g:aC} {w:World} {σ : ai} {K:AV->ai->Prop}
def ie{t:TypeId}{el:El}(h:iV P t=some el): ∃ i,P.info? t=some i/\lI P t=some el.ag/\i.size=el.sz/\(el.ag=false->el.sz=1)/\i.bytes<=24*(el.sz+1)/\el.sz<=1000/\ ∃ z,i.zero=some z/\z.cells.size=el.sz:=by
 unfold iV at h;split at h
 ·rename_i ag i h1 h2;split at h
  ·rename_i h3;cases h;simp only[aD,dD,beq_iff_eq,au]at h3;obtain⟨⟨⟨h3,h4⟩,h5⟩,h6⟩:=h3;refine⟨i,h2,h1,rfl,fun(e:ag=false)=>by rw[e]at h3;simpa using h3,h4,h5,?_⟩;cases hz:i.zero with
   | none=>simp[hz]at h6
   | some z=>exact⟨z,rfl,by simpa[hz]using h6⟩
  ·cases h
 ·cases h
def N6 {t : TypeId} {ag : Bool} {i : TypeInfo} {cs : List AV} {vs : Array Value} {off : Nat} (hA : lI P t = some ag) (hi : P.info? t = some i) (h1 : ag = false -> i.size = 1)
    (hl:cs.length=vs.size) (hs:cs.all AV.scalar=true) (h:∀ i,i<cs.length->VR g w (cs.getD i .undef) (vs.getD i Go.undef)) (ho:off+i.size<=cs.length) :
    ∃ v,(part t vs off).run P w = .ok v w/\VR g w (if ag then .agg ((cs.drop off).take i.size)else cs.getD off .undef) v:=by
 cases ag with
 | true =>
   refine⟨.agg (vs.extract off (off+i.size)),by simp[part,jX hA,c_ hi],?_⟩;refine .agg _ _ (by simp;omega) (oG hs _ _) (fun j hj=>?_);have hj':j<i.size:=by simp at hj;omega
   rw[iA hj'];have:=h (off+j) ae;have h2:off+j<vs.size:=ae;have h3:j<(vs.extract off (off+i.size)).size:=by simp;omega
   have h4:(vs.extract off (off+i.size)).getD j Go.undef=vs.getD (off+j) Go.undef:=by
    rw[<-dz (h:=h3),<-dz (h:=h2),Array.getElem_extract]
   rw[h4];exact this
 | false =>
   have h2:off<vs.size:=by have:=h1 rfl;omega
   refine⟨vs.getD off Go.undef,by simp[part,jX hA,h2],?_⟩;simpa using h off ae
def QF {s : TypeId} {fs : Array Field} {f : Nat} {fi : Field} {ag : Bool} {i : TypeInfo} {x : AV} {a : Value} (hR : Rel g w σ) (hu : P.underlying s = some (.struct fs)) (hf : fs[f]? = some fi)
    (hA:lI P fi.type=some ag) (hi:P.info? fi.type=some i) (hx:VR g w x a)
    (hK:match (generalizing:=false) x with | .agg cs=>fi.offset+i.size<=cs.length/\(ag=false->i.size=1)/\K (if ag then .agg ((cs.drop fi.offset).take i.size)else cs.getD fi.offset .undef) σ | _=>False) :
    bD P (Instr.field s a f) g w σ K:=by
 cases hx<;>simp only at hK
 case agg cs vs hl hs h =>
  obtain⟨h1,h2,h3⟩:=hK;obtain⟨v,r1,r2⟩:=N6 hA hi h2 hl hs h h1;exact bD.pure hR (by simp[Instr.field,aU hu,hf,asAgg,r1]) r2 h3
def QG {s : TypeId} {fs : Array Field} {f : Nat} {fi : Field} {i : TypeInfo} {x : AV} {a : Value} (hR : Rel g w σ) (hu : P.underlying s = some (.struct fs)) (hf : fs[f]? = some fi)
    (hi:P.info? fi.type=some i) (h0:i.size≠0) (hx:VR g w x a)
    (hK : match (generalizing := false) x with
      | .ref l o=>K (.ref l (o+fi.offset)) σ
      | .cN el y o=>K (.cN el y (o+fi.offset)) σ
      | .dw el l m j o=>K (.dw el l m j (o+fi.offset)) σ
      | _=>False):bD P (Instr.fieldAt s a f) g w σ K:=by
 have run:∀ A:Addr,(Instr.fieldAt s (.pointer (some A)) f).run P w = .ok (.pointer (some (A.add fi.offset))) w:=fun A=>by
  simp[Instr.fieldAt,aU hu,hf,Instr.sureAddr,fieldPlace,c_ hi,h0]
 cases hx<;>simp only at hK
 case ref l o h =>
  obtain⟨h1,A,rfl,h2⟩:=h;refine bD.pure hR (run A) (.ref _ _ _ ⟨h1,_,rfl,fun e=>?_⟩) hK;obtain⟨h3,h4⟩:=h2 e;rw[h4,add_plain];exact⟨by rw[h4]at h3;exact h3,rfl⟩
 case cN el y o b o' hi' ft hc h =>
  refine bD.pure hR (run _) ?_ hK;rw[add_plain,bP];exact .cN el y _ b o' hi' ft hc h
 case dw el l m j o h =>
  obtain⟨h1,hm,A,rfl,h2⟩:=h;refine bD.pure hR (run A) (.dw _ _ _ _ _ _ ⟨h1,hm,_,rfl,fun e=>?_⟩) hK;obtain⟨h3,h4⟩:=h2 e;rw[h4,add_plain,bP];exact⟨by rw[h4]at h3;exact h3,rfl⟩
def Iz {t e : TypeId} {el : El} {A : Addr} {n cap : Nat} {k : IntKind} {i : Int} (hu : P.underlying t = some (.slice e)) (he : iV P e = some el) (h0 : 0 <= i) (h1 : i < n) :
    (Instr.indexAt t (.slice (some A) n cap) (.int k i)).run P w = .ok (.pointer (some (A.add (i.toNat*el.sz)))) w:=by
 obtain⟨fi,hi,_,hs,_⟩:=ie he;simp[Instr.indexAt,asIntOf,aU hu,h0,h1,c_ hi,hs]
def Bn {t e : TypeId} {el : El} {A : Addr} {n : Nat} {k : IntKind} {i : Int} (hu : P.underlying t = some (.array n e)) (he : iV P e = some el) (h0 : 0 <= i) (h1 : i < n) :
    (Instr.indexAt t (.pointer (some A)) (.int k i)).run P w = .ok (.pointer (some (A.add (i.toNat*el.sz)))) w:=by
 obtain⟨fi,hi,_,hs,_⟩:=ie he;simp[Instr.indexAt,asIntOf,aU hu,h0,h1,c_ hi,hs,Instr.sureAddr]
def N7 {t e : TypeId} {el : El} {x y : AV} {a b : Value} (hR : Rel g w σ) (hu : P.underlying t = some (.slice e)) (he : iV P e = some el) (hx : VR g w x a) (hy : VR g w y b)
    (hK : match (generalizing := false) y with
      | .int _ k => match (generalizing := false) x with
        | .aH _ aS xs=>aS=el/\0<=k/\k<xs.length/\K (.cN el (xs.getD k.toNat .undef) 0) σ
        | .own aS l m o n => aS = el /\ 0 <= k /\ k < n /\ match σ[l]? with
          | some (.bW _ bq xs)=>bq=el/\m=xs.length/\K (.dw el l m (o+k.toNat) 0) σ
          | _=>False
        | _=>False
      | _=>False):bD P (Instr.indexAt t a b) g w σ K:=by
 cases hy<;>simp only at hK
 case int k i =>
  cases hx<;>simp only at hK
  case iz=>exact absurd (Int.lt_of_le_of_lt hK.2.1 hK.2.2.1) aT
  case aH f aS xs b' off cap hi hf hx' ft hc h =>
   obtain⟨rfl,h0,h1,h2⟩:=hK;have h3:i.toNat<xs.length:=ae;refine bD.pure hR (Iz hu he h0 h1) ?_ h2;rw[add_plain];exact .cN aS _ 0 b' (off+i.toNat*aS.sz) hi (ft _ h3) (fun c lg=>by rw[bP];exact hc _ c h3 lg) (fun c lg=>by rw[bP];exact h _ c h3 lg)
  case own aS l m o n h =>
   obtain⟨rfl,h0,h1,h2⟩:=hK;obtain⟨q1,q2,A,cap,rfl,q3⟩:=h;split at h2
   ·rename_i bq xs hxs;obtain⟨rfl,rfl,h2⟩:=h2;obtain⟨o1,o2,o3⟩:=hR.ok l _ hxs;obtain⟨q4,q5,q6⟩:=q3 o1.symm;rcases o3 with⟨rfl,_,_⟩|⟨b,vs,b1,b2,b3,b4,b5⟩
    ·simp at q4;omega
    have q7:=q6 ae;rw[b1]at q7;simp only[cB]at q7;subst q7;refine bD.pure hR (Iz hu he h0 h1) (.dw _ _ _ _ _ _ ⟨q1,q2,_,rfl,fun e=>?_⟩) h2;rw[add_plain];exact⟨b1,by rw[bJ,bP];rfl⟩
   exact h2.elim
def N8 {t e : TypeId} {el : El} {n : Nat} {x y : AV} {a b : Value} (hR : Rel g w σ) (hu : P.underlying t = some (.array n e)) (he : iV P e = some el) (hx : VR g w x a) (hy : VR g w y b)
    (hK : match (generalizing := false) y with
      | .int _ k => match (generalizing := false) x with
        | .ref l o=>0<=k/\k<n/\K (.ref l (o+k.toNat*el.sz)) σ
        | .cN aS y o=>0<=k/\k<n/\K (.cN aS y (o+k.toNat*el.sz)) σ
        | .dw aS l m j o=>0<=k/\k<n/\K (.dw aS l m j (o+k.toNat*el.sz)) σ
        | _=>False
      | _=>False):bD P (Instr.indexAt t a b) g w σ K:=by
 cases hy<;>simp only at hK
 case int k i =>
  cases hx<;>simp only at hK
  case ref l o h =>
   obtain⟨h0,h1,h2⟩:=hK;obtain⟨q1,A,rfl,q2⟩:=h;refine bD.pure hR (Bn hu he h0 h1) (.ref _ _ _ ⟨q1,_,rfl,fun e=>?_⟩) h2;obtain⟨h3,h4⟩:=q2 e;rw[h4,add_plain];exact⟨by rw[h4]at h3;exact h3,rfl⟩
  case cN aS x' o b' o' hi' ft hc h =>
   obtain⟨h0,h1,h2⟩:=hK;refine bD.pure hR (Bn hu he h0 h1) ?_ h2;rw[add_plain,bP];exact .cN aS _ _ b' o' hi' ft hc h
  case dw aS l m j o h =>
   obtain⟨h0,h1,h2⟩:=hK;obtain⟨q1,qm,A,rfl,q2⟩:=h;refine bD.pure hR (Bn hu he h0 h1) (.dw _ _ _ _ _ _ ⟨q1,qm,_,rfl,fun e=>?_⟩) h2;obtain⟨h3,h4⟩:=q2 e;rw[h4,add_plain,bP];exact⟨by rw[h4]at h3;exact h3,rfl⟩
def Tn {t e : TypeId} {el : El} {n : Nat} {x y : AV} {a b : Value} (hR : Rel g w σ) (hu : P.underlying t = some (.array n e)) (he : iV P e = some el) (hx : VR g w x a) (hy : VR g w y b)
    (hK : match (generalizing := false) x, y with
      | .agg cs, .int _ k => 0 <= k /\ k < n /\ (k.toNat * el.sz + el.sz <= cs.length) /\ (el.ag = false -> el.sz = 1) /\
        K (if el.ag then .agg ((cs.drop (k.toNat*el.sz)).take el.sz)else cs.getD (k.toNat*el.sz) .undef) σ
      | _,_=>False):bD P (Instr.index t a b) g w σ K:=by
 obtain⟨fi,hi,hA,hs,h1,_⟩:=ie he;cases hx<;>cases hy<;>simp only at hK
 case agg.int cs vs hl hsc h k i =>
  obtain⟨h0,h2,h3,_,h4⟩:=hK;obtain⟨v,r1,r2⟩:=N6 (P:=P) (g:=g) (w:=w) (off:=i.toNat*el.sz) hA hi (fun e=>hs.trans (h1 e)) hl hsc h ae;rw[hs]at r2;exact bD.pure hR (by simp[Instr.index,asIntOf,aU hu,h0,h2,c_ hi,hs,r1]) r2 h4
def mG{k:IntKind}{i:Int}{y:Nat}{code:BoundsCode}(h0:0<=i)(h1:i<=y): (Instr.sliceBound (.int k i) y code).run P w = .ok i.toNat w:=by
 simp[Instr.sliceBound,asIntOf,h0,h1]
def mH(g:aC)(w:World)(x:Option AV)(v:Option Value): Prop :=
 match x,v with
 | none,none=>True
 | some a,some u=>VR g w a u
 | _,_=>False
def VB {t : TypeId} {x : AV} {a : Value} {lo hi : Option AV} {vl vh : Option Value} (hR : Rel g w σ) (hu : P.underlying t = some .string) (hx : VR g w x a) (hl : mH g w lo vl) (hh : mH g w hi vh)
    (hK : match (generalizing := false) x with
      | .str s=>bound hi s.length s.length fun h=>bound lo 0 h fun l=>K (.str ((s.drop l).take (h-l))) σ
      | _=>False):bD P (Instr.sliceAt t a vl vh none) g w σ K:=by
 cases hx<;>simp only at hK
 case str s =>
  have key:∀ (l h:Nat),l<=h->h<=s.length->(⟨s.toArray⟩:ByteArray).extract l h=⟨((s.drop l).take (h-l)).toArray⟩:=fun l h h1 h2=>by
   apply ByteArray.ext;simp[ByteArray.data_extract]
  have hs:(⟨s.toArray⟩:ByteArray).size=s.length:=by simp[ByteArray.size]
  obtain⟨h,hb,kb⟩:∃ h:Nat,h<=s.length/\(match vh with|some v=>Instr.sliceBound v s.length .sliceAlen|none=>Pure.pure s.length:Sem Nat).run P w = .ok h w/\bound lo 0 h fun l=>K (.str ((s.drop l).take (h-l))) σ:=by
   cases hi with
   | none => cases vh with
     | none=>exact⟨s.length,aV _,rfl,hK⟩
     | some v=>exact hh.elim
   | some u => cases vh with
     | none=>exact hh.elim
     | some v =>
       have Dy:VR g w u v:=hh;cases Dy<;>simp only[bound]at hK
       case int k i=>exact⟨i.toNat,ae,mG hK.1 hK.2.1,hK.2.2⟩
  obtain⟨kb1,uI⟩:=kb
  obtain⟨l,lb,r1,r2⟩:∃ l:Nat,l<=h/\(match vl with|some v=>Instr.sliceBound v h .sliceB|none=>Pure.pure 0:Sem Nat).run P w = .ok l w/\K (.str ((s.drop l).take (h-l))) σ:=by
   cases lo with
   | none => cases vl with
     | none=>exact⟨0,cD _,rfl,uI⟩
     | some v=>exact hl.elim
   | some u => cases vl with
     | none=>exact hl.elim
     | some v =>
       have hl':VR g w u v:=hl;cases hl'<;>simp only[bound]at uI
       case int k i=>exact⟨i.toNat,ae,mG uI.1 uI.2.1,uI.2.2⟩
  refine bD.pure hR (v:= .string ⟨((s.drop l).take (h-l)).toArray⟩) ?_ (.str _) r2;rw[<-key l h lb hb];cases vh<;>cases vl<;>simp_all[Instr.sliceAt,aU hu,Instr.slice,Instr.sliceBounds]
end
section
variable {P:Program} {g:aC} {w:World} {σ : ai} {K:AV->ai->Prop}
def wc {lo hi : Option AV} {vl vh : Option Value} {len cap : Nat} {K : Nat -> Nat -> Prop} (hl : mH g w lo vl) (hh : mH g w hi vh) (hlc : len <= cap)
    (hK:bound hi len len fun h=>bound lo 0 h fun l=>K l h) :
    ∃ l h:Nat,l<=h/\h<=len/\(Instr.sliceBounds true len cap vl vh none).run P w = .ok (l,h,cap) w/\K l h:=by
 obtain⟨h,hb,kb1,uI⟩:∃ h:Nat,h<=len/\(match vh with|some v=>Instr.sliceBound v cap .sliceAcap|none=>Pure.pure len:Sem Nat).run P w = .ok h w/\bound lo 0 h fun l=>K l h:=by
  cases hi with
  | none => cases vh with
    | none=>exact⟨len,aV _,rfl,hK⟩
    | some v=>exact hh.elim
  | some u => cases vh with
    | none=>exact hh.elim
    | some v =>
      have Dy:VR g w u v:=hh;cases Dy<;>simp only[bound]at hK
      case int k i=>exact⟨i.toNat,ae,mG hK.1 ae,hK.2.2⟩
 obtain⟨l,lb,r1,r2⟩:∃ l:Nat,l<=h/\(match vl with|some v=>Instr.sliceBound v h .sliceB|none=>Pure.pure 0:Sem Nat).run P w = .ok l w/\K l h:=by
  cases lo with
  | none => cases vl with
    | none=>exact⟨0,cD _,rfl,uI⟩
    | some v=>exact hl.elim
  | some u => cases vl with
    | none=>exact hl.elim
    | some v =>
      have hl':VR g w u v:=hl;cases hl'<;>simp only[bound]at uI
      case int k i=>exact⟨i.toNat,ae,mG uI.1 uI.2.1,uI.2.2⟩
 refine⟨l,h,lb,hb,?_,r2⟩;cases vh<;>cases vl<;>simp_all[Instr.sliceBounds]
def VC {t e : TypeId} {el : El} {x : AV} {a : Value} {lo hi : Option AV} {vl vh : Option Value} (hR : Rel g w σ) (hu : P.underlying t = some (.slice e)) (he : iV P e = some el)
    (hx:VR g w x a) (hl:mH g w lo vl) (hh:mH g w hi vh)
    (hK : match (generalizing := false) x with
      | .aP=>bound hi 0 0 fun h=>bound lo 0 h fun _=>K .aP σ
      | .aH _ aS xs=>aS=el/\bound hi xs.length xs.length fun h=>bound lo 0 h fun l=>K (.aH false el ((xs.drop l).take (h-l))) σ
      | .own aS l m o n => aS = el /\ match σ[l]? with
        | some (.bW _ bq xs)=>bq=el/\m=xs.length/\o+n<=m/\bound hi n n fun h=>bound lo 0 h fun k=>K (.own el l m (o+k) (h-k)) σ
        | _=>False
      | _=>False):bD P (Instr.sliceAt t a vl vh none) g w σ K:=by
 obtain⟨fi,hi',_,hs,_⟩:=ie he
 have run:∀ (A:Option Addr) (len cap l h:Nat),(Instr.sliceBounds true len cap vl vh none).run P w = .ok (l,h,cap) w ->
  (Instr.sliceAt t (.slice A len cap) vl vh none).run P w = .ok (.slice (if cap=l then A else A.map (·.add (l*el.sz))) (h-l) (cap-l)) w:=fun A len cap l h hb=>by
  simp only[Instr.sliceAt,Sem.run_bind,aU hu,Result.andThen_ok,Instr.slice,hb,c_ hi',hs,Sem.run_pure]
 cases hx<;>simp only at hK
 case aP =>
  obtain⟨l,h,q1,q2,q3,q4⟩:=wc (P:=P) (cap:=0) hl hh (aV _) hK;have:h=0/\l=0:=ae;obtain⟨rfl,rfl⟩:=this;refine bD.pure hR (run none 0 0 0 0 q3) ?_ q4;simpa using VR.aP
 case iz f aS b cap hf =>
  obtain⟨rfl,hK⟩:=hK;obtain⟨l,h,q1,q2,q3,q4⟩:=wc (P:=P) (cap:=cap) hl hh (cD _) hK;have:h=0/\l=0:=by simp at q2;omega
  obtain⟨rfl,rfl⟩:=this;refine bD.pure hR (run b 0 cap 0 0 q3) ?_ q4;simpa using VR.iz false _ _ cap aT
 case aH f aS xs b off cap sV hf z_ ft hc h =>
  obtain⟨rfl,hK⟩:=hK;obtain⟨l,h',q1,q2,q3,q4⟩:=wc (P:=P) (cap:=cap) hl hh z_ hK;refine bD.pure hR (run _ _ _ _ _ q3) ?_ q4;by_cases e:h'=l
  ·subst e;simpa using VR.iz false _ _ (cap-h') aT
  have hlt:l<h':=ae;rw[aq ae];simp only[cB,add_plain];have hlen:((xs.drop l).take (h'-l)).length=h'-l:=by simp;omega
  have nh:∀ i,i<h'-l->((xs.drop l).take (h'-l)).getD i .undef=xs.getD (l+i) .undef:=fun i hi=>iA hi;have hoff:∀ i c,off+l*aS.sz+(i*aS.sz+c)=off+((l+i)*aS.sz+c):=fun i c=>by rw[bJ];omega
  have:=VR.aH (g:=g) (w:=w) false aS ((xs.drop l).take (h'-l)) b (off+l*aS.sz) (cap-l) sV aT (by rw[hlen];omega)
   (fun i hi=>by rw[hlen]at hi;rw[nh i hi];exact ft _ ae)
   (fun i c hi gQ=>by rw[hlen]at hi;rw[hoff];exact hc _ c ae gQ)
   (fun i c hi gQ=>by rw[hlen]at hi;rw[nh i hi,hoff];exact h _ c ae gQ)
  rwa[hlen]at this
 case own aS l m o n h =>
  obtain⟨rfl,hK⟩:=hK;obtain⟨q1,q2,A,cap,rfl,q3⟩:=h;split at hK
  ·rename_i bq xs hxs;obtain⟨rfl,rfl,rI,hK⟩:=hK;obtain⟨o1,o2,o3⟩:=hR.ok l _ hxs;obtain⟨q4,q5,q6⟩:=q3 o1.symm
   have hcap:xs.length<=g.cap l:=by
    rcases o3 with⟨rfl,_,_⟩|⟨b,vs,b1,b2,b3,b4,b5⟩
    ·exact cD _
    exact b4
   obtain⟨k,h',p1,p2,p3,p4⟩:=wc (P:=P) (cap:=cap) hl hh ae hK;refine bD.pure hR (run _ _ _ _ _ p3) (.own _ _ _ _ _ _ ⟨q1,q2,_,_,rfl,fun e=>⟨ae,ae,fun hlt=>?_⟩⟩) p4;rw[aq ae,q6 ae];cases g.base l with
   | none=>rfl
   | some b=>simp[add_plain,bJ,bP]
  exact hK.elim
def QH {x : AV} {a : Value} {o : Oper} {y : Operand} {ac : Act} (ho : o.op = .nilCheck y) (ha : ac.eval y = a) (hR : Rel g w σ) (hx : VR g w x a)
    (hK : match (generalizing := false) x with
      | .ref .. | .cN .. | .dw .. | .iS .. | .fn (.func _) _ _ | .lW _=>K x σ
      | _=>False) :
    ∃ v w' g' av σ',(execOp ac.eval o).run P w = .ok (.value v) w'/\Rel g' w' σ'/\ep σ g w σ' g' w'/\VR g' w' av v/\K av σ':=by
 have fin:(execOp ac.eval o).run P w = .ok (.value a) w->K x σ-> ∃ v w' g' av σ',(execOp ac.eval o).run P w = .ok (.value v) w'/\Rel g' w' σ'/\ep σ g w σ' g' w'/\VR g' w' av v/\K av σ' :=
  fun h hk=>⟨a,w,g,x,σ,h,hR,.refl _ _ _,hx,hk⟩
 cases x<;>(try exact False.elim hK)
 case ref l off =>
  refine fin ?_ hK;cases hx with|ref _ _ _ h=>obtain⟨_,A,rfl,_⟩:=h;simp[execOp,ho,ha]
 case cN el x off =>
  refine fin ?_ hK;cases hx;simp[execOp,ho,ha]
 case dw el l m i off =>
  refine fin ?_ hK;cases hx with|dw _ _ _ _ _ _ h=>obtain⟨_,_,A,rfl,_⟩:=h;simp[execOp,ho,ha]
 case iS t v =>
  refine fin ?_ hK;cases hx;simp[execOp,ho,ha]
 case lW l =>
  refine fin ?_ hK;cases hx with|lW _ _ h=>obtain⟨_,A,rfl,_⟩:=h;simp[execOp,ho,ha]
 case fn f first cap =>
  cases f<;>(try exact False.elim hK)
  case func n =>
   refine fin ?_ hK;cases hx;simp[execOp,ho,ha]
def QI {t : TypeId} {d : TypeDesc} {x : AV} {a : Value} (hR : Rel g w σ) (hu : P.underlying t = some d) (hd : ∀ ms, d ≠ .interface ms) (hx : VR g w x a) (hK : K (.iS t x) σ) :
    bD P (Instr.makeInterface t a) g w σ K:=by
 refine bD.pure hR ?_ (.iS t x a hx) hK;cases d<;>first|(simp[Instr.makeInterface,aU hu];done)|exact absurd rfl (hd _)
def Tp {ats : Array TypeId} {t : TypeId} {r : TypeId} {x : AV} {a : Value} (hR : Rel g w σ) (ht : ats[0]? = some t) (hu : P.underlying t = some .string) (hx : VR g w x a)
    (hK : match (generalizing := false) x with
      | .str s=>K (.int .i64 s.length) σ
      | _=>False):bD P (Builtin.len_ ats r #[a]) g w σ K:=by
 cases hx<;>simp only at hK
 case str s=>exact bD.pure hR (v:= .int .i64 s.length) (by
  have hs:(⟨s.toArray⟩:ByteArray).size=s.length:=eM;unfold Builtin.len_;simp[ht,aU hu,goInt,hs]) (.int _ _) hK
def Tq {ats : Array TypeId} {t e : TypeId} {r : TypeId} {x : AV} {a : Value} (hR : Rel g w σ) (ht : ats[0]? = some t) (hu : P.underlying t = some (.slice e)) (hx : VR g w x a)
    (hK : match (generalizing := false) x with
      | .aP=>K (.int .i64 0) σ
      | .aH _ _ xs=>K (.int .i64 xs.length) σ
      | .own _ _ _ _ n=>K (.int .i64 n) σ
      | _=>False):bD P (Builtin.len_ ats r #[a]) g w σ K:=by
 have hsl:∀ A n c,a = .slice A n c->K (.int .i64 n) σ->bD P (Builtin.len_ ats r #[a]) g w σ K:=fun A n c ha hk=>by
  subst ha;exact bD.pure hR (v:= .int .i64 n) (by unfold Builtin.len_;simp[ht,aU hu,goInt]) (.int _ _) hk
 cases hx<;>simp only at hK
 case aP=>exact hsl _ _ _ rfl hK
 case iz=>exact hsl _ _ _ rfl hK
 case aH=>exact hsl _ _ _ rfl hK
 case own h=>obtain⟨_,_,A,cap,rfl,_⟩:=h;exact hsl _ _ _ rfl hK
def N9 (op : Bool) : ∀ (xs : List AV) (vs : List Value) (x : AV) (v : Value), VR g w x v -> xs.length = vs.length -> (∀ i, i < xs.length -> VR g w (xs.getD i .undef) (vs.getD i Go.undef)) ->
    po op x xs (fun v=>K v σ)-> ∃ av u,(vs.foldlM (if op then Builtin.min2 else Builtin.max2) v).run P w = .ok u w/\VR g w av u/\K av σ:=by
 intro xs
 induction xs with
 | nil =>
   intro vs x v hx hl _ hK;cases vs with
   | nil=>exact⟨x,v,rfl,hx,hK⟩
   | cons _ _=>cases hl
 | cons y ys ih =>
   intro vs x v hx hl h hK;cases vs with
   | nil=>cases hl
   | cons u us =>
     have hy:VR g w y u:=by simpa using h 0 aT
     simp only[po]at hK;cases hx<;>simp only[Dp]at hK;cases hy<;>simp only at hK;rename_i k a k' b
     obtain⟨av,u',r1,r2,r3⟩:=ih us _ (.int k (if op then(if b<a then b else a)else (if b>a then b else a))) (.int _ _) (by simpa using hl)
      (fun i hi=>by simpa using h (i+1) (by simpa using hi)) hK
     refine⟨av,u',?_,r2,r3⟩;cases op<;>simpa[List.foldlM_cons,Builtin.min2,Builtin.max2]using r1
def VD {ats : Array TypeId} {r : TypeId} {x : AV} {xs : List AV} {v : Value} {vs : List Value} (hR : Rel g w σ) (hx : VR g w x v) (hl : xs.length = vs.length)
    (h:∀ i,i<xs.length->VR g w (xs.getD i .undef) (vs.getD i Go.undef)) (hK:po true x xs fun v=>K v σ):bD P (Builtin.min_ ats r (v::vs).toArray) g w σ K:=by
 obtain⟨av,u,r1,r2,r3⟩:=N9 (P:=P) true xs vs x v hx hl h hK;exact bD.pure hR (by simpa[Builtin.min_]using r1) r2 r3
def VE {ats : Array TypeId} {r : TypeId} {x : AV} {xs : List AV} {v : Value} {vs : List Value} (hR : Rel g w σ) (hx : VR g w x v) (hl : xs.length = vs.length)
    (h:∀ i,i<xs.length->VR g w (xs.getD i .undef) (vs.getD i Go.undef)) (hK:po false x xs fun v=>K v σ):bD P (Builtin.max_ ats r (v::vs).toArray) g w σ K:=by
 obtain⟨av,u,r1,r2,r3⟩:=N9 (P:=P) false xs vs x v hx hl h hK;exact bD.pure hR (by simpa[Builtin.max_]using r1) r2 r3
end
section
variable {P:Program} {g:aC} {w:World} {σ : ai} {K:AV->ai->Prop}
def LI {k : Kd} {a b : AV} {r : Bool} (h : G6 k a b = some r) {v u : Value} (hv : VR g w a v) (hu : VR g w b u) :
    (k = .b/\ ∃ x y,v = .bool x/\u = .bool y/\r=(x==y))\/(k = .i/\ ∃ q x y,v = .int q x/\u = .int q y/\r=(x==y)) \/
    (k = .s/\ ∃ x y:List UInt8,v = .string ⟨x.toArray⟩/\u = .string ⟨y.toArray⟩/\r=(x==y)):=by
 cases k<;>cases hv<;>cases hu<;>simp only[G6]at h<;>(try cases h)
 case b.bool.bool.refl x y=>exact .inl ⟨rfl,x,y,rfl,rfl,rfl⟩
 case i.int.int q x q' y =>
  split at h
  ·rename_i e;subst e;cases h;exact .inr (.inl ⟨rfl,q,x,y,rfl,rfl,rfl⟩)
  ·cases h
 case s.str.str.refl x y=>exact .inr (.inr ⟨rfl,x,y,rfl,rfl,rfl⟩)
def Dz {k1 k2 : List Kd} {az bs : List AV} {r : Bool} (h : ic (k1 ++ k2) az bs = some r) :
    ∃ r1 r2,ic k1 (az.take k1.length) (bs.take k1.length)=some r1/\ic k2 (az.drop k1.length) (bs.drop k1.length)=some r2/\r=(r1 && r2):=by
 induction k1 generalizing az bs r with
 | nil=>exact⟨true,r,by simp[ic],by simpa using h,aT⟩
 | cons k ks ih =>
   cases az with
   | nil=>cases bs<;>simp[ic]at h
   | cons a az =>
     cases bs with
     | nil=>simp[ic]at h
     | cons b bs =>
       simp only[gO,ic]at h;split at h
       ·rename_i x y h1 h2;cases h;obtain⟨r1,r2,i1,i2,rfl⟩:=ih h2;exact⟨x && r1,r2,by simp[ic,h1,i1],by simpa using i2,by simp[Bool.and_assoc]⟩
       ·cases h
def YB {k : Kd} {a b : AV} {r : Bool} {t : TypeId} {d : TypeDesc} (hu : P.underlying t = some d) (hd : (d = .bool /\ k = .b) \/ ((∃ q, d = .int q) /\ k = .i) \/ (d = .string /\ k = .s)) {v u : Value}
    (h:ic [k] [a] [b]=some r) (hv:VR g w a v) (hv':VR g w b u) (D:Nat):(Op.equalIn (D+1) t v u).run P w = .ok r w:=by
 simp only[ic]at h;split at h
 ·rename_i x y h1 h2;cases h2;cases h;rcases LI h1 hv hv' with⟨rfl,x',y',rfl,rfl,rfl⟩|⟨rfl,q,x',y',rfl,rfl,rfl⟩|⟨rfl,x',y',rfl,rfl,rfl⟩
  ·rcases hd with⟨rfl,_⟩|⟨_,e⟩|⟨_,e⟩
   ·simp[run_equalIn_bool' w D t x' y' hu]
   ·cases e
   ·cases e
  ·rcases hd with⟨_,e⟩|⟨⟨q',rfl⟩,_⟩|⟨_,e⟩
   ·cases e
   ·simp[run_equalIn_int w D t q q' x' y' hu]
   ·cases e
  rcases hd with⟨_,e⟩|⟨_,e⟩|⟨rfl,_⟩
  ·cases e
  ·cases e
  simp[run_equalIn_string w D t _ _ hu,N5]
 ·cases h
def YC : ∀ (d : Nat) (t : TypeId) (ks : List Kd) (D : Nat) (xs ys : Array Value) (o : Nat) (az bs : List AV) (r : Bool), n6 P d t = some ks -> d <= D ->
    (∃ i,P.info? t=some i/\i.size=ks.length)->az.length=ks.length->bs.length=ks.length->o+ks.length<=xs.size->o+ks.length<=ys.size ->
    (∀ i,i<ks.length->VR g w (az.getD i .undef) (xs.getD (o+i) Go.undef))->(∀ i,i<ks.length->VR g w (bs.getD i .undef) (ys.getD (o+i) Go.undef))->ic ks az bs=some r ->
    ∃ v u,(part t xs o).run P w = .ok v w/\(part t ys o).run P w = .ok u w/\(Op.equalIn D t v u).run P w = .ok r w:=by
 intro d
 induction d with
 | zero=>intro t ks D xs ys o az bs r h;cases h
 | succ d ih =>
   intro t ks D xs ys o az bs r h hD hinfo la lb hx hy ha hb hk;obtain⟨ti,yz,hsz⟩:=hinfo;obtain⟨D,rfl⟩:∃ D',D=D'+1:=⟨D-1,ae⟩
   have YD:∀ (k:Kd) (dd:TypeDesc),P.underlying t=some dd->lI P t=some false->ks=[k]->((dd = .bool/\k = .b)\/((∃ q,dd = .int q)/\k = .i)\/(dd = .string/\k = .s)) ->
    ∃ v u,(part t xs o).run P w = .ok v w/\(part t ys o).run P w = .ok u w/\(Op.equalIn (D+1) t v u).run P w = .ok r w:=by
    intro k dd hu hA hks hd;subst hks;simp only[List.length_singleton]at *
    match az,bs,la,lb with
    | [a], [b], _, _ =>
      have h1:o<xs.size:=ae;have h2:o<ys.size:=ae;refine⟨xs.getD o Go.undef,ys.getD o Go.undef,by simp[part,jX hA,h1],by simp[part,jX hA,h2],?_⟩;exact YB hu hd hk (by simpa using ha 0 ae) (by simpa using hb 0 ae) D
   simp only[n6]at h;split at h
   ·rename_i hu;cases h;exact YD .b _ hu (by simp[lI,hu]) rfl (.inl ⟨rfl,rfl⟩)
   ·rename_i q hu;cases h;exact YD .i _ hu (by simp[lI,hu]) rfl (.inr (.inl ⟨⟨q,rfl⟩,rfl⟩))
   ·rename_i hu;cases h;exact YD .s _ hu (by simp[lI,hu]) rfl (.inr (.inr ⟨rfl,rfl⟩))
   ·rename_i fs hu;split at h
    ·cases h
    rename_i hst;have hA:lI P t=some true:=by simp[lI,hu]
    refine⟨.agg (xs.extract o (o+ti.size)),.agg (ys.extract o (o+ti.size)),by simp[part,jX hA,c_ yz],by simp[part,jX hA,c_ yz],?_⟩;have hfo:P.fieldsOf t=fs:=by simp[Program.fieldsOf,hu]
    rw[run_equalIn_struct w D t _ _ (by rw[hfo];exact hu) (by simpa using hst),hfo]
    have key:∀ (l:List Field) (off:Nat) (ks:List Kd) (az bs:List AV) (r:Bool) (X Y:Array Value),uf P (n6 P d) off l=some ks->az.length=ks.length->bs.length=ks.length ->
     off+ks.length<=X.size->off+ks.length<=Y.size->(∀ i,i<ks.length->VR g w (az.getD i .undef) (X.getD (off+i) Go.undef))->(∀ i,i<ks.length->VR g w (bs.getD i .undef) (Y.getD (off+i) Go.undef)) ->
     ic ks az bs=some r->(Op.eqFields D X Y l).run P w = .ok r w:=by
     intro l
     induction l with
     | nil =>
       intro off ks az bs r X Y h la lb _ _ _ _ hk;cases h;cases az<;>cases bs<;>simp[ic]at hk;subst hk;rfl
     | cons f fs ihl =>
       intro off ks az bs r X Y h la lb hx hy ha hb hk;simp only[uf]at h;split at h
       ·cases h
       rename_i hne;simp only[dD,beq_iff_eq,bne_iff_ne,not_or,Decidable.not_not]at hne;obtain⟨hn,rfl⟩:=hne;split at h
       ·rename_i k1 fi yA RV;split at h
        ·rename_i hs1;simp only[aW]at h;obtain⟨k2,lZ,rfl⟩:=h;simp only[aG]at *;obtain⟨r1,r2,e1,e2,rfl⟩:=Dz hk
         obtain⟨v,u,p1,p2,p3⟩:=ih f.type k1 D X Y f.offset (az.take k1.length) (bs.take k1.length) r1 yA ae ⟨fi,RV,by simpa using hs1⟩ (by simp;omega) (by simp;omega) ae ae
          (fun i hi=>by have:=ha i ae;simpa[dX,hi]using this) (fun i hi=>by have:=hb i ae;simpa[dX,hi]using this) e1
         have Cy:=ihl (f.offset+k1.length) k2 (az.drop k1.length) (bs.drop k1.length) r2 X Y lZ (by simp;omega) (by simp;omega) ae ae
          (fun i hi=>by have:=ha (k1.length+i) ae;simpa[bP]using this) (fun i hi=>by have:=hb (k1.length+i) ae;simpa[bP]using this) e2
         simp only [Op.eqFields, aB (show f.name ≠ "_" from hn), Sem.run_bind, p1, p2, p3, Result.andThen_ok]
         cases r1
         ·simp
         simpa using Cy
        ·cases h
       ·cases h
    refine key fs.toList 0 ks az bs r _ _ h la lb (by simp;omega) (by simp;omega) (fun i hi=>?_) (fun i hi=>?_) hk
    ·have h3:i<(xs.extract o (o+ti.size)).size:=by simp;omega
     have h4:o+i<xs.size:=ae;have:=ha i hi;rw[<-dz (h:=h4)]at this;rw[bp,<-dz (h:=h3),Array.getElem_extract];exact this
    have h3:i<(ys.extract o (o+ti.size)).size:=by simp;omega
    have h4:o+i<ys.size:=ae;have:=hb i hi;rw[<-dz (h:=h4)]at this;rw[bp,<-dz (h:=h3),Array.getElem_extract];exact this
   ·rename_i n e hu;split at h
    ·rename_i k1 fi yA RV;split at h
     ·rename_i hs1;cases h;simp only[aD,beq_iff_eq]at hs1;obtain⟨hs1,hs2⟩:=hs1;have hA:lI P t=some true:=by simp[lI,hu]
      refine⟨.agg (xs.extract o (o+ti.size)),.agg (ys.extract o (o+ti.size)),by simp[part,jX hA,c_ yz],by simp[part,jX hA,c_ yz],?_⟩;rw[Go.run_equalIn_array w D _ _ hu RV,hs2]
      have key:∀ (m j:Nat) (az bs:List AV) (r:Bool) (X Y:Array Value),az.length=m*k1.length->bs.length=m*k1.length ->
       (j+m)*k1.length<=X.size->(j+m)*k1.length<=Y.size->(∀ i,i<m*k1.length->VR g w (az.getD i .undef) (X.getD (j*k1.length+i) Go.undef))->(∀ i,i<m*k1.length->VR g w (bs.getD i .undef) (Y.getD (j*k1.length+i) Go.undef)) ->
       ic (List.replicate m k1).flatten az bs=some r->(Go.Op.eqItems D e k1.length X Y (List.range' j m)).run P w = .ok r w:=by
       intro m
       induction m with
       | zero =>
         intro j az bs r X Y la lb _ _ _ _ hk;rw[Nat.zero_mul]at la lb;rw[eA la,eA lb]at hk;simp[ic]at hk;subst hk;rfl
       | succ m ihm =>
         intro j az bs r X Y la lb hx hy ha hb hk;rw[List.replicate_succ,List.flatten_cons]at hk;rw[dy]at la lb;have hjm:(j+(m+1))*k1.length=j*k1.length+m*k1.length+k1.length:=by rw[bJ,dy];omega
         have LJ:(j+1)*k1.length=j*k1.length+k1.length:=dy _ _;have vF:(j+1+m)*k1.length=j*k1.length+k1.length+m*k1.length:=by rw[bJ,LJ]
         rw[hjm]at hx hy;have hmm:(m+1)*k1.length=m*k1.length+k1.length:=dy _ _;rw[hmm]at ha hb;obtain⟨r1,r2,e1,e2,rfl⟩:=Dz hk
         obtain⟨v,u,p1,p2,p3⟩:=ih e k1 D X Y (j*k1.length) (az.take k1.length) (bs.take k1.length) r1 yA ae ⟨fi,RV,hs1⟩ (by simp;omega) (by simp;omega) ae ae
          (fun i hi=>by have:=ha i ae;simpa[dX,hi]using this) (fun i hi=>by have:=hb i ae;simpa[dX,hi]using this) e1
         have Cy:=ihm (j+1) (az.drop k1.length) (bs.drop k1.length) r2 X Y (by simp;omega) (by simp;omega) ae ae
          (fun i hi=>by have:=ha (k1.length+i) ae;rw[LJ];simpa[bP]using this) (fun i hi=>by have:=hb (k1.length+i) ae;rw[LJ];simpa[bP]using this) e2
         rw[List.range'_succ];simp only[Go.Op.eqItems,Sem.run_bind,p1,p2,p3,Result.andThen_ok];cases r1
         ·simp
         simpa using Cy
      have hlen:(List.replicate n k1).flatten.length=n*k1.length:=aT;rw[hlen]at hsz la lb hx hy;rw[iL];refine key n 0 az bs r _ _ la lb (by simp;omega) (by simp;omega) (fun i hi=>?_) (fun i hi=>?_) hk
      ·have h3:i<(xs.extract o (o+ti.size)).size:=by simp;omega
       have h4:o+i<xs.size:=ae;have:=ha i (by rw[hlen];exact hi);rw[<-dz (h:=h4)]at this;rw[Nat.zero_mul,bp,<-dz (h:=h3),Array.getElem_extract];exact this
      have h3:i<(ys.extract o (o+ti.size)).size:=by simp;omega
      have h4:o+i<ys.size:=ae;have:=hb i (by rw[hlen];exact hi);rw[<-dz (h:=h4)]at this;rw[Nat.zero_mul,bp,<-dz (h:=h3),Array.getElem_extract];exact this
     ·cases h
    ·cases h
   ·cases h
end
section
variable {P:Program} {g:aC} {w:World} {σ : ai} {K:AV->ai->Prop}
def LK {op : BinOp} {t : TypeId} {ks : List Kd} {ag : Bool} {i : TypeInfo} {x y : AV} {a b : Value} {ox oy : Operand} (hop : op = .eql \/ op = .neq) (hR : Rel g w σ) (hf : n6 P 12 t = some ks) (hA : lI P t = some ag) (hi : P.info? t = some i)
    (hs:i.size=ks.length) (hg:ag=true->P.eqGuardType P.depth t=false) (hx:VR g w x a) (hy:VR g w y b)
    (hK : match (generalizing := false) (if ag then (match (generalizing := false) x, y with | .agg az, .agg bs => ic ks az bs | _, _ => none) else ic ks [x] [y]) with
      | some r=>K (.bool (if op = .neq then !r else r)) σ
      | none=>False):bD P (do eqGuard op t ox oy a b;binOp op t a b) g w σ K:=by
 have adk:∀ (ks:List Kd) (az bs:List AV) (r:Bool),ic ks az bs=some r->az.length=ks.length/\bs.length=ks.length:=by
  intro ks
  induction ks with
  | nil=>intro az bs r h;cases az<;>cases bs<;>simp[ic]at h |-
  | cons k ks ih =>
    intro az bs r h;cases az<;>cases bs<;>simp only[ic]at h<;>(try cases h);split at h
    ·rename_i h1 h2;have:=ih _ _ _ h2;simp[this.1,this.2]
    ·cases h
 cases ag with
 | true =>
   simp only[if_true]at hK;cases hx<;>(try exact False.elim hK);cases hy<;>(try exact False.elim hK)
   case agg.agg az vs hl hsc h bs us hl' YE h' =>
    simp only at hK;split at hK
    ·rename_i r hr;obtain⟨l1,l2⟩:=adk _ _ _ _ hr
     obtain⟨v,u,p1,p2,p3⟩:=YC (P:=P) (g:=g) (w:=w) 12 t ks 10000 vs us 0 az bs r hf ae ⟨i,hi,hs⟩ l1 l2 ae ae
      (fun j hj=>by simpa using h j ae) (fun j hj=>by simpa using h' j ae) hr
     have e1:v = .agg vs:=by
      have:(part t vs 0).run P w = .ok (.agg (vs.extract 0 (0+i.size))) w:=by simp[part,jX hA,c_ hi]
      rw[this]at p1;cases p1;rw[bp,show i.size=vs.size by omega];simp
     have e2:u = .agg us:=by
      have:(part t us 0).run P w = .ok (.agg (us.extract 0 (0+i.size))) w:=by simp[part,jX hA,c_ hi]
      rw[this]at p2;cases p2;rw[bp,show i.size=us.size by omega];simp
     subst e1;subst e2;refine bD.pure hR (v:= .bool (if op = .neq then !r else r)) ?_ (.bool _) hK;simp only[Sem.run_bind,run_eqGuard_agg w op t ox oy vs us (hg rfl),Result.andThen_ok];rcases hop with rfl|rfl
     ·rw[run_eql_struct,p3];rfl
     rw[run_neq_struct,p3];rfl
    exact hK.elim
 | false =>
   simp only[aN,if_false]at hK;split at hK
   ·rename_i r hr;obtain⟨l1,l2⟩:=adk _ _ _ _ hr;simp only[List.length_singleton]at l1
    match ks,l1 with
    | [k], _ =>
      have hd:∃ d,P.underlying t=some d/\((d = .bool/\k = .b)\/((∃ q,d = .int q)/\k = .i)\/(d = .string/\k = .s)):=by
       unfold n6 at hf;split at hf
       ·rename_i hu;cases hf;exact⟨_,hu,.inl ⟨rfl,rfl⟩⟩
       ·rename_i q hu;cases hf;exact⟨_,hu,.inr (.inl ⟨⟨q,rfl⟩,rfl⟩)⟩
       ·rename_i hu;cases hf;exact⟨_,hu,.inr (.inr ⟨rfl,rfl⟩)⟩
       ·rename_i fs hu;simp[lI,hu]at hA
       ·rename_i n e hu;simp[lI,hu]at hA
       ·cases hf
      obtain⟨d,hu,hd⟩:=hd;simp only[ic]at hr;split at hr
      ·rename_i r1 r2 h1 h2;cases h2;cases hr;simp only[Bool.and_true]at *;rcases LI h1 hx hy with⟨rfl,x',y',rfl,rfl,rfl⟩|⟨rfl,q,x',y',rfl,rfl,rfl⟩|⟨rfl,x',y',rfl,rfl,rfl⟩
       ·rcases hd with⟨rfl,_⟩|⟨_,e⟩|⟨_,e⟩
        ·refine bD.pure hR (v:= .bool (if op = .neq then !(x'==y')else (x'==y'))) ?_ (.bool _) hK;rcases hop with rfl|rfl<;>simp[eqGuard,binOp,Op.equal,Op.maxDepth,run_equalIn_bool' w 9999 t x' y' hu]
        ·cases e
        ·cases e
       ·refine bD.pure hR (v:= .bool (if op = .neq then !(x'==y')else (x'==y'))) ?_ (.bool _) hK;rcases hop with rfl|rfl<;>simp[eqGuard,binOp,Op.intCmp,bne]
       refine bD.pure hR (v:= .bool (if op = .neq then !(x'==y')else (x'==y'))) ?_ (.bool _) hK;rcases hop with rfl|rfl<;>simp[eqGuard,binOp,Op.stringOp,N5]
      ·cases hr
   exact hK.elim
def IA {op : BinOp} {t : TypeId} {x y : AV} {a b : Value} {ox oy : Operand} (hR : Rel g w σ) (hx : VR g w x a) (hy : VR g w y b)
    (hK:jR op x y fun v=>K v σ):bD P (do eqGuard op t ox oy a b;binOp op t a b) g w σ K:=by
 have hg:(eqGuard op t ox oy a b).run P w = .ok () w:=by
  cases hx<;>cases hy<;>(try (cases op<;>exact hK.elim))<;>cases op<;>rfl
 obtain⟨v,w',g',av,σ',h1,h2⟩:=Vz (P:=P) (t:=t) hR hx hy hK;exact⟨v,w',g',av,σ',by simp only[Sem.run_bind,hg,Result.andThen_ok,h1],h2⟩
def LL {elem : TypeId} {t : TypeId} (hu : P.underlying t = some (.pointer elem)) (p : Option Addr) (D : Nat) :
    (Op.equalIn (D+1) t (.pointer none) (.pointer p)).run P w = .ok p.isNone w/\(Op.equalIn (D+1) t (.pointer p) (.pointer none)).run P w = .ok p.isNone w:=by
 constructor
 ·simp[Op.equalIn,aU hu]
 ·cases p<;>simp[Op.equalIn,aU hu]
def IB (place : Nat -> Option (Nat × Nat)) {e : Env} {a : Act} {nt : Nat} (hE : fm nt g w e a.tmps) : ∀ (parts : List (Nat × Operand)) (ps : List ((Nat × Nat) × AX)) (cs : List AV) (vs : Array Value) (K : List AV -> Prop),
    pK nt place parts=some ps->cs.length=vs.size->(∀ i,i<cs.length->VR g w (cs.getD i .undef) (vs.getD i Go.undef))->cs.all AV.scalar=true ->
    lP cs e (ps.map fun p=>(p.1.1,p.1.2,p.2)) K ->
    ∃ cs' us,Instr.fill place vs (parts.map fun p=>(p.1,a.eval p.2))=some us/\cs'.length=us.size/\(∀ i,i<cs'.length->VR g w (cs'.getD i .undef) (us.getD i Go.undef))/\cs'.all AV.scalar=true/\us.size=vs.size/\K cs':=by
 intro parts
 induction parts with
 | nil =>
   intro ps cs vs K h hl hr hs hK;cases h;exact⟨cs,vs,rfl,hl,hr,hs,rfl,hK⟩
 | cons p parts ih =>
   intro ps cs vs K h hl hr hs hK;obtain⟨i,x⟩:=p;simp only[pK]at h;split at h
   ·rename_i q ax ps' h1 h2 h3;cases h;obtain⟨off,n⟩:=q;simp only[bN,lP]at hK;obtain⟨k1,k2,k3,k4⟩:=hK;have hv:=bL h2 hE;obtain⟨c1,c2⟩:=lj hv k2
    have hput:∀ (us:List Value) (vs:Array Value) (j:Nat),off+j+us.length<=vs.size->(us.zipIdx j).foldl (fun cs (p:Value × Nat)=>cs.setIfInBounds (off+p.2) p.1) vs=putRow vs (off+j) us:=by
     intro us
     induction us with
     | nil=>intros;rfl
     | cons u us ih =>
       intro vs j hh;simp only[aE]at hh;simp only[List.zipIdx_cons,List.foldl_cons,putRow];exact ih _ (j+1) (by simp;omega)
    have Ts:(a.eval x).cells.zipIdx.foldl (fun cs (p:Value × Nat)=>cs.setIfInBounds (off+p.2) p.1) vs=putRow vs off (a.eval x).cells.toList:=by
     have:=hput (a.eval x).cells.toList vs 0 (by simp;omega);rw[<-Array.foldl_toList,Array.toList_zipIdx];simpa using this
    obtain⟨cs',us,r1,r2,r3,r4,r5,r6⟩:=ih ps' (dm cs off (ax.ev e).cells) (putRow vs off (a.eval x).cells.toList) K h3 (by rw[fq,size_putRow];exact hl)
     (fun j hj => by
       rw[fq]at hj;rw[mg _ _ _ ae,jd _ _ _ (by simp;omega)];simp only[dB,<-c1];split
       ·rename_i hh;simpa using c2 (j-off) ae
       ·exact hr j hj) (zw hs off k2) k4
    refine⟨cs',us,?_,r2,r3,r4,by rw[r5,size_putRow],r6⟩;simp only[bN,Instr.fill,h1];have e1:¬ ((a.eval x).cells.size≠n\/vs.size<off+(a.eval x).cells.size):=ae;rw[aq (by simpa using e1),Ts];exact r1
   ·cases h
def DA {t : TypeId} {fs : Array Field} {z : AV} {e : Env} {a : Act} {nt : Nat} {parts : Array (Nat × Operand)} {ps : List ((Nat × Nat) × AX)} (hR : Rel g w σ) (hE : fm nt g w e a.tmps)
    (hz:jv P t=some z) (hzs:z.cells.all AV.scalar=true) (hu:P.underlying t=some (.struct fs)) (hfs:fs.toList.all (fun f=>(P.info? f.type).isSome)=true)
    (hp:pK nt (fun i=>(fs[i]?).map fun f=>(f.offset,P.cellsOf f.type)) parts.toList=some ps)
    (hK:lP z.cells e (ps.map fun p=>(p.1.1,p.1.2,p.2)) fun cs=>K (.agg cs) σ):bD P (Instr.build t (parts.map fun(i,x)=>(i,a.eval x))) g w σ K:=by
 obtain⟨v,h1,h2⟩:=rm hz w;obtain⟨h3,h4⟩:=h2 g w;obtain⟨h5,h6⟩:=lj h3 h4
 have abz:∀ (l:List Field),l.all (fun f=>(P.info? f.type).isSome)=true->(l.mapM fun f=>(do pure (f.offset,← sizeOf f.type):Sem (Nat × Nat))).run P w = .ok (l.map fun f=>(f.offset,P.cellsOf f.type)) w:=by
  intro l
  induction l with
  | nil=>intro _;rfl
  | cons f l ih =>
    intro h;simp only[List.all_cons,aD,eJ]at h;obtain⟨⟨i,hi⟩,h'⟩:=h;simp only[List.mapM_cons,Sem.run_bind,c_ hi,Result.andThen_ok,Sem.run_pure,ih h',bN,Program.cellsOf,hi,cB,bF]
 obtain⟨cs',us,r1,r2,r3,r4,r5,r6⟩:=IB (fun i=>(fs[i]?).map fun f=>(f.offset,P.cellsOf f.type)) hE parts.toList ps z.cells v.cells _ hp h5 h6 h4 hK;refine bD.pure hR (v:= .agg us) ?_ (.agg cs' us r2 r4 r3) r6
 have hm:(fs.mapM fun f=>(do pure (f.offset,← sizeOf f.type):Sem (Nat × Nat))).run P w = .ok (fs.map fun f=>(f.offset,P.cellsOf f.type)) w:=by
  have:=abz fs.toList hfs;rw[Array.mapM_eq_mapM_toList];simp only[Sem.run_map,this,Result.andThen_ok]
  congr 1
  apply Array.ext';simp
 simp only[Instr.build,Sem.run_bind,h1,Result.andThen_ok,aU hu,hm]
 have FA:Instr.fill (fun i=>(fs.map fun f=>(f.offset,P.cellsOf f.type))[i]?) v.cells (parts.map fun(i,x)=>(i,a.eval x)).toList=some us:=by
  rw[<-r1]
  congr 1
  ·funext i;simp
  simp
 rw[FA];rfl
end
section
variable {P:Program} {g:aC} {w:World} {σ : ai} {K:AV->ai->Prop}
def iB(g:aC)(w:World)(el:El)(xs:List AV)(vs:Array Value): Prop :=
 ∀ i c,i<xs.length->c<el.sz->VR g w ((xs.getD i .undef).cell c) (vs.getD (i*el.sz+c) Go.undef)
def iB.mono{g g':aC}{w w':World}{el:El}{xs:List AV}{vs:Array Value}(h:iB g w el xs vs)(hm:jQ g w g' w'): iB g' w' el xs vs :=
 fun i c hi hc=>(h i c hi hc).mono hm
def mI{i c n s:Nat}(hi:i<n)(hc:c<s): i*s+c<n*s:=by
 calc i*s+c<i*s+s:=ae
  _=(i+1)*s:=by rw[dy]
  _<=n*s:=bw _ hi
def iB.append {el : El} {xs ys : List AV} {vs us rest : Array Value} (h : iB g w el xs vs) (h' : iB g w el ys us) (hv : vs.size = xs.length * el.sz) (hu : us.size = ys.length * el.sz) :
    iB g w el (xs++ys) (vs++us++rest):=by
 intro i c hi hc;simp only[aG]at hi;by_cases h1:i<xs.length
 ·have h2:=mI h1 hc;have e1:(xs++ys).getD i .undef=xs.getD i .undef:=by simp[aO h1]
  have e2:(vs++us++rest).getD (i*el.sz+c) Go.undef=vs.getD (i*el.sz+c) Go.undef:=by
   have h3:i*el.sz+c<vs.size:=ae;have h4:i*el.sz+c<(vs++us).size:=by simp;omega
   simp[bT h3,bT h4]
  rw[e1,e2];exact h i c h1 hc
 obtain⟨j,rfl⟩:∃ j,i=xs.length+j:=⟨i-xs.length,ae⟩;have hj:j<ys.length:=ae;have h2:=mI hj hc;have e1:(xs++ys).getD (xs.length+j) .undef=ys.getD j .undef:=by simp[bx]
 have e3:(xs.length+j)*el.sz+c=vs.size+(j*el.sz+c):=by rw[bJ,hv];omega
 have e2:(vs++us++rest).getD ((xs.length+j)*el.sz+c) Go.undef=us.getD (j*el.sz+c) Go.undef:=by
  rw[e3];have h4:vs.size+(j*el.sz+c)<(vs++us).size:=by simp;omega
  rw[bQ,bT h4,Array.getElem?_append_right ae];simp
 rw[e1,e2];exact h' j c hj hc
def yB {b o n : Nat} (hc : ∀ c, c < n -> (w.cell? ⟨b, o + c, none⟩).isSome = true) (w2 : World) (hw : w2.heap = w.heap) :
    (loadCells ⟨b,o,none⟩ n).run P w2 = .ok (((List.range n).map fun c=>dn w ⟨b,o+c,none⟩).toArray) w2:=by
 have e:∀ a,w2.cell? a=w.cell? a:=fun a=>by simp only[World.cell?,hw]
 have:=run_loadCells (P:=P) (w:=w2) (b:=b) (o:=o) (fun c h=>by rw[e];exact hc c h) 0 #[] n ae;simpa[loadCells,iL,dn,e]using this
def mJ {el : El} {x : AV} {v : Value} {K : List AV -> Prop} (hR : Rel g w σ) (hv : VR g w x v) (hK : fL σ el x K) :
    ∃ xs:List AV,∃ us:Array Value,K xs/\(Builtin.lenOf v).run P w = .ok xs.length w/\(∀ w2:World,w2.heap=w.heap->(Builtin.firstCells el.sz xs.length v).run P w2 = .ok us w2)/\us.size=xs.length*el.sz/\iB g w el xs us:=by
 cases hv<;>simp only[fL]at hK
 case str s =>
  obtain⟨rfl,hK⟩:=hK;have hs:(⟨s.toArray⟩:ByteArray).size=s.length:=eM;refine⟨_,(s.map fun b=>Value.int .u8 b.toNat).toArray,hK,by simp[Builtin.lenOf,hs],fun w2 _=>?_,aT,fun i c hi hc=>?_⟩
  ·have : (⟨s.toArray⟩ : ByteArray).extract 0 s.length = ⟨s.toArray⟩ := by
    apply ByteArray.ext;simp[ByteArray.data_extract]
   simp[Builtin.firstCells,this]
  have hc0:c=0:=by simp at hc;omega
  subst hc0;simp only[c8]at hi;simp[hi,AV.cell];exact .int _ _
 case aP=>exact⟨[],#[],hK,rfl,fun _ _=>rfl,aT,fun i c hi=>absurd hi (cJ _)⟩
 case iz f aS b cap hf =>
  obtain⟨rfl,hK⟩:=hK;refine⟨[],#[],hK,rfl,fun w2 _=>?_,aT,fun i c hi=>absurd hi (cJ _)⟩;cases b with
  | none=>rfl
  | some b=>simp[Builtin.firstCells,loadCells,loadCellsFrom]
 case aH f aS xs b off cap hi hf hx ft hc h =>
  obtain⟨rfl,hK⟩:=hK
  have hcells:∀ c,c<xs.length*aS.sz->(w.cell? ⟨b,off+c,none⟩).isSome=true:=fun c gQ=>by
   have hz:0<aS.sz:=by
    rcases Nat.eq_zero_or_pos aS.sz with e|e
    ·rw[e]at gQ;simp at gQ
    exact e
   have:=hc (c / aS.sz) (c % aS.sz) ((Nat.div_lt_iff_lt_mul hz).2 gQ) (Nat.mod_lt _ hz);rwa[Nat.div_add_mod' c aS.sz]at this
  refine⟨xs,_,hK,rfl,yB hcells,aT,fun i c hi' gQ=>?_⟩;have h2:=mI hi' gQ;simpa[h2]using h i c hi' gQ
 case own aS l m lo n h =>
  obtain⟨rfl,hK⟩:=hK;obtain⟨q1,q2,A,cap,rfl,q3⟩:=h;split at hK
  ·rename_i bq xs hxs;obtain⟨rfl,rfl,hK⟩:=hK;obtain⟨o1,o2,o3⟩:=hR.ok l _ hxs;obtain⟨q4,q5,q6⟩:=q3 o1.symm;have hlen:((xs.drop lo).take n).length=n:=by simp;omega
   refine⟨(xs.drop lo).take n,?_⟩;rw[hlen];rcases Nat.eq_zero_or_pos n with rfl|hn
   ·refine⟨#[],hK,rfl,fun w2 _=>?_,aT,fun i c hi=>by simp at hi⟩;cases A with
    | none=>rfl
    | some b=>simp[Builtin.firstCells,loadCells,loadCellsFrom]
   rcases o3 with⟨rfl,_,_⟩|⟨b,vs,b1,b2,b3,b4,b5,_⟩
   ·simp at q4;omega
   have q7:=q6 ae;rw[b1]at q7;simp only[cB]at q7;subst q7
   have hrow:g.off l+lo*bq.sz+n*bq.sz<=vs.size:=by
    have:lo*bq.sz+n*bq.sz<=g.cap l*bq.sz:=by rw[<-bJ];exact bw _ ae
    omega
   have hcells:∀ c,c<n*bq.sz->w.cell? ⟨b,g.off l+lo*bq.sz+c,none⟩=some (vs.getD (g.off l+lo*bq.sz+c) Go.undef):=fun c gQ=>b2.cell ae;refine⟨_,hK,rfl,yB (fun c gQ=>by rw[hcells c gQ];rfl),aT,fun i c hi' gQ=>?_⟩;rw[hlen]at hi';have h2:=mI hi' gQ;rw[iA hi']
   have e:(((List.range (n*bq.sz)).map fun c=>dn w ⟨b,g.off l+lo*bq.sz+c,none⟩).toArray).getD (i*bq.sz+c) Go.undef=vs.getD (g.off l+(lo+i)*bq.sz+c) Go.undef:=by
    rw[show g.off l+(lo+i)*bq.sz+c=g.off l+lo*bq.sz+(i*bq.sz+c) by rw[bJ];omega];have:=hcells _ h2;simp[h2,dn,this]
   rw[e];exact b5 (lo+i) c ae gQ
  exact hK.elim
 case lX aS p n A cap hn hc h =>
  obtain⟨rfl,rfl,hK⟩:=hK;obtain⟨b,o,cs,rfl,h1,h2,h3,h4,h5⟩:=Iy hR h hK;refine⟨cs,((List.range (n*1)).map fun c=>dn w ⟨b,o+c,none⟩).toArray,h3,by rw[h1];rfl,?_,by simp[h1],fun i c hi gQ=>?_⟩
  ·rw[h1];exact yB (n:=n*1) (fun c hc=>h4 c ae)
  have hc0:c=0:=by simp at gQ;omega
  subst hc0;have:=h5 i ae;have hi':i<n:=ae;have hsc:=v8 h2 hi;have hcell:(cs.getD i .undef).cell 0=cs.getD i .undef:=by generalize cs.getD i .undef=z at hsc;cases z<;>first|rfl|(simp[AV.scalar]at hsc;done)
  rw[hcell];simpa[hi']using this
def r7 {el : El} {x : AV} {v : Value} {K : List AV -> Prop} (m : Nat) (hR : Rel g w σ) (hv : VR g w x v) (hK : fL σ el x K) :
    ∃ xs:List AV,∃ us:Array Value,K xs/\(Builtin.lenOf v).run P w = .ok xs.length w/\(Builtin.firstCells el.sz (min xs.length m) v).run P w = .ok us w/\us.size=min xs.length m*el.sz/\iB g w el (xs.take m) us:=by
 have rows:∀ {b o n:Nat} {xs:List AV},(∀ c,c<n*el.sz->(w.cell? ⟨b,o+c,none⟩).isSome=true)->n=min xs.length m->(∀ i c,i<xs.length->c<el.sz->VR g w ((xs.getD i .undef).cell c) (dn w ⟨b,o+(i*el.sz+c),none⟩)) ->
  ∃ us:Array Value,(loadCells ⟨b,o,none⟩ (min xs.length m*el.sz)).run P w = .ok us w/\us.size=min xs.length m*el.sz/\iB g w el (xs.take m) us:=by
  intro b o n xs hc hn h;subst hn;refine⟨_,yB hc w rfl,aT,fun i c hi gQ=>?_⟩;simp only[dH]at hi;have IC:i<xs.length:=ae;have Cx:i<min xs.length m:=ae;have h2:=mI Cx gQ;rw[show (xs.take m).getD i .undef=xs.getD i .undef by simp[show i<m by omega]];simpa[h2]using h i c IC gQ
 cases hv<;>simp only[fL]at hK
 case str s =>
  obtain⟨rfl,hK⟩:=hK;have hs:(⟨s.toArray⟩:ByteArray).size=s.length:=eM;refine⟨_,((s.take m).map fun b=>Value.int .u8 b.toNat).toArray,hK,by simp[Builtin.lenOf,hs],?_,by simp;omega,fun i c hi hc=>?_⟩
  ·have : (⟨s.toArray⟩ : ByteArray).extract 0 (min s.length m) = ⟨(s.take m).toArray⟩ := by
    apply ByteArray.ext;simp[ByteArray.data_extract,List.take_eq_take_iff];omega
   simp[Builtin.firstCells,this]
  have hc0:c=0:=by simp at hc;omega
  subst hc0;simp only[dH,c8]at hi;have h1:i<s.length:=ae;have h2:i<m:=ae;simp[h1,h2,AV.cell];exact .int _ _
 case aP=>exact⟨[],#[],hK,rfl,by simp[Builtin.firstCells],aT,fun i c hi=>by simp at hi⟩
 case iz f aS b cap hf =>
  obtain⟨rfl,hK⟩:=hK;refine⟨[],#[],hK,rfl,?_,aT,fun i c hi=>by simp at hi⟩;cases b with
  | none=>simp[Builtin.firstCells]
  | some b=>simp[Builtin.firstCells,loadCells,loadCellsFrom]
 case aH f aS xs b off cap hi hf hx ft hc h =>
  obtain⟨rfl,hK⟩:=hK
  have hcells:∀ c,c<min xs.length m*aS.sz->(w.cell? ⟨b,off+c,none⟩).isSome=true:=fun c gQ=>by
   have hz:0<aS.sz:=by
    rcases Nat.eq_zero_or_pos aS.sz with e|e
    ·rw[e]at gQ;simp at gQ
    exact e
   have hle:min xs.length m*aS.sz<=xs.length*aS.sz:=bw _ ae;have:=hc (c / aS.sz) (c % aS.sz) ((Nat.div_lt_iff_lt_mul hz).2 ae) (Nat.mod_lt _ hz);rwa[Nat.div_add_mod' c aS.sz]at this
  obtain⟨us,u1,u2,u3⟩:=rows hcells rfl h;exact⟨xs,us,hK,rfl,u1,u2,u3⟩
 case own aS l m' lo n h =>
  obtain⟨rfl,hK⟩:=hK;obtain⟨q1,q2,A,cap,rfl,q3⟩:=h;split at hK
  ·rename_i bq xs hxs;obtain⟨rfl,rfl,hK⟩:=hK;obtain⟨o1,o2,o3⟩:=hR.ok l _ hxs;obtain⟨q4,q5,q6⟩:=q3 o1.symm;have hlen:((xs.drop lo).take n).length=n:=by simp;omega
   rcases Nat.eq_zero_or_pos n with rfl|hn
   ·refine⟨(xs.drop lo).take 0,#[],hK,rfl,?_,aT,fun i c hi=>by simp at hi⟩;cases A with
    | none=>simp[Builtin.firstCells]
    | some b=>simp[Builtin.firstCells,loadCells,loadCellsFrom]
   rcases o3 with⟨rfl,_,_⟩|⟨b,vs,b1,b2,b3,b4,b5,_⟩
   ·simp at q4;omega
   have q7:=q6 ae;rw[b1]at q7;simp only[cB]at q7;subst q7
   have hrow:g.off l+lo*bq.sz+n*bq.sz<=vs.size:=by
    have:lo*bq.sz+n*bq.sz<=g.cap l*bq.sz:=by rw[<-bJ];exact bw _ ae
    omega
   have hcells:∀ c,c<n*bq.sz->w.cell? ⟨b,g.off l+lo*bq.sz+c,none⟩=some (vs.getD (g.off l+lo*bq.sz+c) Go.undef):=fun c gQ=>b2.cell ae;have hle:min n m*bq.sz<=n*bq.sz:=bw _ ae
   obtain⟨us,u1,u2,u3⟩:=rows (xs:=(xs.drop lo).take n) (b:=b) (o:=g.off l+lo*bq.sz) (n:=min n m) (fun c gQ=>by rw[hcells c ae];rfl) (by rw[hlen]) (fun i c hi gQ=>by
    rw[hlen]at hi;have h2:=mI hi gQ;rw[iA hi]
    have e:dn w ⟨b,g.off l+lo*bq.sz+(i*bq.sz+c),none⟩=vs.getD (g.off l+(lo+i)*bq.sz+c) Go.undef:=by
     unfold dn;rw[hcells _ h2,show g.off l+lo*bq.sz+(i*bq.sz+c)=g.off l+(lo+i)*bq.sz+c by rw[bJ];omega];rfl
    rw[e];exact b5 (lo+i) c ae gQ)
   rw[hlen]at u1 u2;exact⟨(xs.drop lo).take n,us,hK,by rw[hlen];rfl,by rw[hlen];exact u1,by rw[hlen];exact u2,u3⟩
  exact hK.elim
 case lX aS p n A cap hn hc h =>
  obtain⟨rfl,rfl,hK⟩:=hK;obtain⟨b,o,cs,rfl,h1,h2,h3,h4,h5⟩:=Iy hR h hK
  obtain⟨us,u1,u2,u3⟩:=rows (xs:=cs) (b:=b) (o:=o) (n:=min cs.length m) (fun c gQ=>h4 c (by simp at gQ;omega)) rfl (fun i c hi gQ=>by
   have hc0:c=0:=by simp at gQ;omega
   subst hc0;have:=h5 i ae;have hsc:=v8 h2 hi;have hcell:(cs.getD i .undef).cell 0=cs.getD i .undef:=by generalize cs.getD i .undef=z at hsc;cases z<;>first|rfl|(simp[AV.scalar]at hsc;done)
   rw[hcell];simpa using this)
  exact⟨cs,us,h3,by rw[h1];rfl,u1,u2,u3⟩
def LN(need:Nat): ∀(r c:Nat),c<=2*need+512->Builtin.growBy need r c<=2*need+512
 | 0,c,h=>h
 | r + 1, c, h => by
   simp only[Builtin.growBy];split
   ·exact h
   exact LN need r _ ae
def Tt{need old:Nat}(h:old<need): Builtin.nextslicecap need old<=2*need+512:=by
 unfold Builtin.nextslicecap;split
 ·omega
 split
 ·omega
 exact LN need 4 old ae
def abA{need old bytes sz:Nat}(h:old<need)(hb:bytes<=24*(sz+1))(hs:sz<=1000)(hr:need*(sz+1)<=2^40): ¬ Builtin.nextslicecap need old*bytes>2^48:=by
 have h1:=Tt h;have h2:Builtin.nextslicecap need old*bytes<=(2*need+512)*(24*(sz+1)):=Nat.mul_le_mul h1 hb
 have h3:(2*need+512)*(24*(sz+1))=48*(need*(sz+1))+12288*(sz+1):=by
  rw[bJ,show 2*need*(24*(sz+1))=48*(need*(sz+1)) by
   rw[Nat.mul_comm 2 need,Nat.mul_assoc,show 2*(24*(sz+1))=48*(sz+1) by omega,Nat.mul_left_comm]]
  omega
 have h4:48*(need*(sz+1))<=48*2^40:=Nat.mul_le_mul_left _ hr;have h5:(2:Nat) ^ 48=281474976710656:=dV;have h6:(2:Nat) ^ 40=1099511627776:=dV;omega
def Hi {ats : Array TypeId} {r sT xT e : TypeId} {d : TypeDesc} {el : El} {base : Option Addr} {sLen sCap n : Nat} {x : Value} {olds news : Array Value}
    (h0:ats[0]? = some sT) (h1:ats[1]? = some xT) (hu:P.underlying sT=some (.slice e)) (hx:P.underlying xT=some d) (hd:∀ k,d≠ .int k) (he:iV P e=some el)
    (hl:(Builtin.lenOf x).run P w = .ok n w) (hc:sCap<sLen+n) (hr:(sLen+n)*(el.sz+1)<=2^40)
    (ho:∀ dr,(Builtin.firstCells el.sz sLen (.slice base sLen sCap)).run P { w with drawn:=dr } = .ok olds { w with drawn:=dr })
    (hn:∀ dr,(Builtin.firstCells el.sz n x).run P { w with drawn:=dr } = .ok news { w with drawn:=dr }) :
    ∃ cap rest dr, sLen + n <= cap /\ rest.size = (cap - (sLen + n)) * el.sz /\
      (Builtin.append_ ats r #[.slice base sLen sCap,x]).run P w = .ok (.slice (some ⟨w.heap.size,0,none⟩) (sLen+n) cap) (World.alloc { w with drawn:=dr } (.cells (olds++news++rest) e)):=by
 obtain⟨fi,hi,_,hs,_,hb,hsz,z,hz,hzs⟩:=ie he;have hroom:=abA (bytes:=fi.bytes) (old:=sCap) hc hb hsz hr;have hzv:∀ w,(zeroValue e).run P w = .ok z w:=fun w=>by simp[zeroValue,run_typeInfo hi,hz]
 let q:Question:= .appendCap (sLen+n) sCap e
 let cap:=q.cut (w.tape w.drawn q)
 refine⟨cap,Builtin.zeroCells z.cells (cap-(sLen+n)),w.drawn+1,by simp only[cap,q,Question.cut];omega,by simp[Builtin.zeroCells,hzs],?_⟩;have an4:(match d with | .int _=>true|_=>false)=false:=by cases d<;>first|rfl|exact absurd rfl (hd _)
 have hfalse:((d matches .int _):Bool)=false:=by cases d<;>first|rfl|exact absurd rfl (hd _)
 have aih:¬ (sLen+n<=sCap):=ae
 have hbytes:fi.bytes=0->¬ (((sLen+n:Nat):Int)>IntKind.i64.max):=fun _=>by
  have:(sLen+n)*1<=(sLen+n)*(el.sz+1):=Nat.mul_le_mul_left _ ae;have h6:(2:Nat) ^ 40=1099511627776:=dV;have:IntKind.i64.max=9223372036854775807:=dV;omega
 have hb':¬ ((((sLen+n:Nat):Int)>IntKind.i64.max)/\fi.bytes=0):=fun h=>hbytes h.2 h.1;have am5:q.forced=false:=rfl;unfold Builtin.append_;simp only[dO,cE,cR,h0,h1,Sem.run_bind,aU hu,Result.andThen_ok,c_ hi,hs,aU hx,Sem.run_pure,hfalse,hl,aN,if_false,aq aih,run_typeInfo hi,false_or,gY,if_true];rw[aq hb'];simp only[Sem.run_bind,run_typeInfo hi,Result.andThen_ok,aq hroom];rw[run_choose];simp only[show (Question.appendCap (sLen+n) sCap e).forced=false from rfl,aN,if_false,Result.andThen_ok,run_typeInfo hi,run_askRoom,ho,hn,hzv,newRow,Sem.run_bind,run_newObj,Sem.run_pure];rfl
def Gt {ats : Array TypeId} {r sT xT e : TypeId} {d : TypeDesc} {el : El} {b o : Nat} {sLen sCap n : Nat} {x : Value} {news vs : Array Value}
    (h0:ats[0]? = some sT) (h1:ats[1]? = some xT) (hu:P.underlying sT=some (.slice e)) (hx:P.underlying xT=some d) (hd:∀ k,d≠ .int k) (he:iV P e=some el)
    (hl:(Builtin.lenOf x).run P w = .ok n w) (hc:sLen+n<=sCap)
    (hn:(Builtin.firstCells el.sz n x).run P w = .ok news w) (hr:Row w b vs) (hsz:o+sLen*el.sz+news.size<=vs.size) (h1c:∀ u ∈ news.toList,u.oneCell'=true) :
    (Builtin.append_ ats r #[.slice (some ⟨b,o,none⟩) sLen sCap,x]).run P w = .ok (.slice (some ⟨b,o,none⟩) (sLen+n) sCap) (setRow w b (o+sLen*el.sz) news.toList):=by
 obtain⟨fi,hi,_,hs,_⟩:=ie he;have hfalse:((d matches .int _):Bool)=false:=by cases d<;>first|rfl|exact absurd rfl (hd _)
 have hst:=nI (P:=P) (b:=b) (o:=o+sLen*el.sz) news.toList w vs 0 hr (by simpa using hsz) h1c;unfold Builtin.append_;simp only[dO,cE,cR,h0,h1,Sem.run_bind,aU hu,Result.andThen_ok,c_ hi,hs,aU hx,Sem.run_pure,hfalse,hl,aN,if_false,aB hc,hn,gY,if_true,add_plain];rw[hst];simp
def DB {ats : Array TypeId} {r sT xT e : TypeId} {d : TypeDesc} {el : El} {sLen sCap n : Nat} {x : Value} {news : Array Value}
    (h0:ats[0]? = some sT) (h1:ats[1]? = some xT) (hu:P.underlying sT=some (.slice e)) (hx:P.underlying xT=some d) (hd:∀ k,d≠ .int k) (he:iV P e=some el)
    (hl:(Builtin.lenOf x).run P w = .ok n w) (hc:sLen+n<=sCap) (hn:(Builtin.firstCells el.sz n x).run P w = .ok news w) :
    (Builtin.append_ ats r #[.slice none sLen sCap,x]).run P w = .ok (.slice none (sLen+n) sCap) w:=by
 obtain⟨fi,hi,_,hs,_⟩:=ie he;have hfalse:((d matches .int _):Bool)=false:=by cases d<;>first|rfl|exact absurd rfl (hd _)
 unfold Builtin.append_;simp only[dO,cE,cR,h0,h1,Sem.run_bind,aU hu,Result.andThen_ok,c_ hi,hs,aU hx,Sem.run_pure,hfalse,hl,aN,if_false,aB hc,hn,gY,if_true]
def lJ{el:El}{xs:List AV}{us:Array Value}(h:iB g w el xs us)(hs:us.size=xs.length*el.sz)(hf:∀ i,i<xs.length->(xs.getD i .undef).fits el=true): ∀ u ∈ us.toList,u.oneCell'=true:=by
 intro u hu;obtain⟨k,hk,rfl⟩:=hU.1 hu;simp only[dB]at hk
 have hz:0<el.sz:=by
  rcases Nat.eq_zero_or_pos el.sz with e|e
  ·rw[e]at hs;omega
  exact e
 have h1:k / el.sz<xs.length:=(Nat.div_lt_iff_lt_mul hz).2 ae;have h2:k % el.sz<el.sz:=Nat.mod_lt _ hz;have:=h _ _ h1 h2;rw[Nat.div_add_mod' k el.sz]at this
 have hsc:((xs.getD (k / el.sz) .undef).cell (k % el.sz)).scalar=true:=by
  have hft:=hf _ h1;generalize xs.getD (k / el.sz) .undef=y at hft
  cases y<;>simp only[AV.fits,Bool.and_eq_true,beq_iff_eq]at hft<;>first
   |(obtain⟨⟨_,q1⟩,q2⟩:=hft;exact v8 q2 ae)
   | rfl
   | cases hft
 have:=this.Fu hsc;simpa[hk]using this
def yC {T : Option TypeId} {ats : Array TypeId} {r sT xT e : TypeId} {d : TypeDesc} {el : El} {x y : AV} {a b : Value} (hR : Rel g w σ)
    (h0:ats[0]? = some sT) (h1:ats[1]? = some xT) (hu:P.underlying sT=some (.slice e)) (hd':P.underlying xT=some d) (hd:∀ k,d≠ .int k) (he:iV P e=some el)
    (hx:VR g w x a) (hy:VR g w y b) (hT:T=none\/T=some e) (qJ:oc σ T el x y K):bD P (Builtin.append_ ats r #[a,b]) g w σ K:=by
 obtain⟨ys,news,hK,hl,uJ,hsz,hh⟩:=mJ (P:=P) hR hy qJ;clear qJ;obtain⟨hfit,hK⟩:=hK
 have yD:∀ i,i<ys.length->(ys.getD i .undef).fits el=true:=fun i hi=>by
  have:=bt.1 hfit (ys[i]) (c9 _);simpa[hi]using this
 have h1c:=lJ hh hsz yD;have hn:∀ dr,(Builtin.firstCells el.sz ys.length b).run P { w with drawn:=dr } = .ok news { w with drawn:=dr }:=fun dr=>uJ _ rfl
 have hty:∀ (w1:World) (vs:Array Value),tf (World.alloc w1 (.cells vs e)) w1.heap.size vs.size T:=fun w1 vs=>by
  rcases hT with rfl|rfl
  ·trivial
  have:(World.alloc w1 (.cells vs e)).heap[w1.heap.size]? = some (.cells vs e):=heap_alloc_new w1 _;simp only[tf,World.shape?,this]
 have fresh:∀ (xs:List AV) (olds:Array Value) (base:Option Addr) (sCap:Nat),a = .slice base xs.length sCap->sCap<xs.length+ys.length->fE (xs.length+ys.length) el ->
  (∀ dr,(Builtin.firstCells el.sz xs.length (.slice base xs.length sCap)).run P { w with drawn:=dr } = .ok olds { w with drawn:=dr }) ->
  olds.size=xs.length*el.sz->iB g w el xs olds->(∀ i,i<xs.length->(xs.getD i .undef).fits el=true) ->
  ∃ cap rest dr, xs.length + ys.length <= cap /\ rest.size = (cap - (xs.length + ys.length)) * el.sz /\ (olds ++ news ++ rest).size = cap * el.sz /\ iB g w el (xs ++ ys) (olds ++ news ++ rest) /\ (∀ i, i < (xs ++ ys).length -> ((xs ++ ys).getD i .undef).fits el = true) /\
    (Builtin.append_ ats r #[a,b]).run P w = .ok (.slice (some ⟨w.heap.size,0,none⟩) (xs.length+ys.length) cap) (World.alloc { w with drawn:=dr } (.cells (olds++news++rest) e)):=by
  intro xs olds base sCap ha hc hr ho hos hoh hof;obtain⟨cap,rest,dr,k1,k2,k3⟩:=Hi (P:=P) (r:=r) h0 h1 hu hd' hd he hl hc hr ho hn;refine⟨cap,rest,dr,k1,k2,?_,hoh.append hh hos hsz,fun i hi=>?_,by rw[ha];exact k3⟩
  ·simp only[iO,hos,hsz,k2];rw[<-bJ,<-bJ]
   congr 1
   omega
  simp only[aG]at hi;by_cases h:i<xs.length
  ·have:=hof i h;simpa[aO h]using this
  obtain⟨j,rfl⟩:∃ j,i=xs.length+j:=⟨i-xs.length,ae⟩;have:=yD j ae;simpa[bx]using this
 have pushed:∀ (zs:List AV) (vs:Array Value) (cap dr:Nat),zs.length<=cap->vs.size=cap*el.sz->iB g w el zs vs->(∀ i,i<zs.length->(zs.getD i .undef).fits el=true) ->
  ∃ g', Rel g' (World.alloc { w with drawn := dr } (.cells vs e)) (σ ++ [.bW T el zs]) /\ ep σ g w (σ ++ [.bW T el zs]) g' (World.alloc { w with drawn := dr } (.cells vs e)) /\
    VR g' (World.alloc { w with drawn:=dr } (.cells vs e)) (.own el σ.length zs.length 0 zs.length) (.slice (some ⟨w.heap.size,0,none⟩) zs.length cap):=by
  intro zs vs cap dr k1 k2 k3 k4;have kE:=hR.drew dr;have hm:=kj g { w with drawn:=dr } (.cells vs e) zs.length (some w.heap.size) cap kE.lt
  obtain⟨r1,r2⟩:=kE.pG (.cells vs e) (.bW T el zs) zs.length cap
   ⟨by simp[aC.push],k4,.inr ⟨w.heap.size,vs,by simp[aC.push],mF _ _ vs e,by simp[aC.push,k2],by simp[aC.push,k1],fun i c hi hc=>by simp only[aC.push,if_true,bp];exact((k3 i c hi hc).mono (ep.drew σ g w dr).mono).mono hm,by simp only[aC.push,if_true];exact(hty _ _).v⟩⟩
  refine⟨_,r1,(ep.drew σ g w dr).trans r2,.own _ _ _ _ _ _ ⟨by simp[aC.push,hR.len],by simp[aC.push,hR.len],_,_,rfl,fun _=>⟨ae,by simp[aC.push,hR.len],fun _=>by simp[aC.push,hR.len]⟩⟩⟩
 cases hx<;>(try exact False.elim hK)
 case aP =>
  simp only at hK;split at hK
  ·rename_i hz;refine⟨.slice none 0 0,w,g,.aP,σ,?_,hR,.refl _ _ _,.aP,hK⟩;have:=DB (P:=P) (r:=r) (sLen:=0) (sCap:=0) h0 h1 hu hd' hd he hl ae (uJ w rfl);rw[this];simp[hz]
  rename_i hz;obtain⟨hr,hK⟩:=hK;obtain⟨cap,rest,dr,k1,k2,k3,k4,k5,k6⟩:=fresh [] #[] none 0 rfl (by simp;omega) (by simpa using hr) (fun _=>rfl) aT (fun i c hi=>absurd hi (cJ _)) (fun i hi=>absurd hi (cJ _));simp only[gj,a_,bp]at k1 k4 k5 k6;obtain⟨g',r1,r2,r3⟩:=pushed ys _ cap dr k1 k3 k4 k5;exact⟨_,_,g',_,_,k6,r1,r2,r3,hK⟩
 case iz f aS base cap hf =>
  cases f with
  | false=>exact hK.elim
  | true =>
    obtain⟨rfl,hK⟩:=hK;have hcap:cap=0:=hf rfl;subst hcap;split at hK
    ·rename_i hz;refine⟨.slice base 0 0,w,g,.aH true aS [],σ,?_,hR,.refl _ _ _,.iz _ _ _ _ hf,hK⟩;cases base with
     | none =>
       have:=DB (P:=P) (r:=r) (sLen:=0) (sCap:=0) h0 h1 hu hd' hd he hl ae (uJ w rfl);rw[this];simp[hz]
     | some A =>
       obtain⟨fi,hi,_,hs,_⟩:=ie he;have hfalse:((d matches .int _):Bool)=false:=by cases d<;>first|rfl|exact absurd rfl (hd _)
       have hne:news = #[]:=by rw[hz]at hsz;exact eZ (by simpa using hsz)
       have Bo:=uJ w rfl;rw[hne,hz]at Bo;rw[hz]at hl;unfold Builtin.append_;simp only[dO,cE,cR,h0,h1,Sem.run_bind,aU hu,Result.andThen_ok,c_ hi,hs,aU hd',Sem.run_pure,hfalse,hl,aN,if_false,dP,aV,if_true,Bo,gY];simp[storeCells]
    rename_i hz;obtain⟨hr,hK⟩:=hK;obtain⟨cap,rest,dr,k1,k2,k3,k4,k5,k6⟩:=fresh [] #[] base 0 rfl (by simp;omega) (by simpa using hr) (fun _=>by cases base<;>simp[Builtin.firstCells,loadCells,loadCellsFrom]) aT (fun i c hi=>absurd hi (Nat.not_lt_zero _)) (fun i hi=>absurd hi (Nat.not_lt_zero _));simp only[gj,a_,bp]at k1 k4 k5 k6 hK;obtain⟨g',r1,r2,r3⟩:=pushed ys _ cap dr k1 k3 k4 k5;exact⟨_,_,g',_,_,k6,r1,r2,r3,hK⟩
 case aH f aS xs b' off cap sV hf z_ ft hc h =>
  cases f with
  | false=>exact hK.elim
  | true =>
    obtain⟨rfl,hK⟩:=hK;have hcap:cap=xs.length:=hf rfl;subst hcap;have zx:VR g w (.aH true aS xs) (.slice (some ⟨b',off,none⟩) xs.length xs.length):= .aH true aS xs b' off _ sV hf z_ ft hc h;split at hK
    ·rename_i hz;refine⟨.slice (some ⟨b',off,none⟩) xs.length xs.length,w,g,.aH true aS xs,σ,?_,hR,.refl _ _ _,zx,hK⟩;obtain⟨fi,hi,_,hs,_⟩:=ie he;have hfalse:((d matches .int _):Bool)=false:=by cases d<;>first|rfl|exact absurd rfl (hd _)
     have hne:news = #[]:=by rw[hz]at hsz;exact eZ (by simpa using hsz)
     have Bo:=uJ w rfl;rw[hne,hz]at Bo;rw[hz]at hl;unfold Builtin.append_;simp only[dO,cE,cR,h0,h1,Sem.run_bind,aU hu,Result.andThen_ok,c_ hi,hs,aU hd',Sem.run_pure,hfalse,hl,aN,if_false,dP,aV,if_true,Bo,gY];simp[storeCells]
    rename_i hz;obtain⟨hr,hK⟩:=hK;obtain⟨xs',olds,q1,q2,q3,q4,q5⟩:=mJ (P:=P) (K:=fun zs=>zs=xs) (el:=aS) hR zx (by simp[fL]);subst q1;obtain⟨cap,rest,dr,k1,k2,k3,k4,k5,k6⟩:=fresh xs' olds _ xs'.length rfl ae hr (fun _=>q3 _ rfl) q4 q5 ft;obtain⟨g',r1,r2,r3⟩:=pushed (xs'++ys) _ cap dr (by simpa using k1) k3 k4 k5;simp only[aG]at r3;exact⟨_,_,g',_,_,k6,r1,r2,r3,hK⟩
 case own aS l m lo n h =>
  obtain⟨rfl,hK⟩:=hK;have zx:VR g w (.own aS l m lo n) a:= .own _ _ _ _ _ _ h;obtain⟨q1,q2,A,cap,rfl,q3⟩:=h;split at hK
  ·rename_i T' bq xs hxs;obtain⟨hTT,rfl,rfl,rfl,rfl,hr,hK⟩:=hK;obtain⟨o1,o2,o3⟩:=hR.ok l _ hxs;obtain⟨q4,q5,q6⟩:=q3 o1.symm;by_cases hc:xs.length+ys.length<=cap
   ·
    rcases Nat.eq_zero_or_pos ys.length with hz|hz
    ·
     have hne:news = #[]:=by rw[hz]at hsz;exact eZ (by simpa using hsz)
     have hys:ys=[]:=eA hz;subst hys
     have r8 : σ.set l (.bW T' bq xs) = σ:=by
      apply List.ext_getElem?;intro k;by_cases e:k=l
      ·subst e;rw[bI (by have:=(aK.1 hxs).1;exact this)];exact hxs.symm
      rw[aI (Ne.symm e)]
     simp only[a_,dP,cI,r8]at hK;refine⟨.slice A xs.length cap,w,g,.own bq l xs.length 0 xs.length,σ,?_,hR,.refl _ _ _,zx,hK⟩;obtain⟨fi,hi,_,hs,_⟩:=ie he;have hfalse:((d matches .int _):Bool)=false:=by cases d<;>first|rfl|exact absurd rfl (hd _)
     have Bo:=uJ w rfl;rw[hne]at Bo;simp only[a_,dP]at hc Bo hl;unfold Builtin.append_;simp only[dO,cE,cR,h0,h1,Sem.run_bind,aU hu,Result.andThen_ok,c_ hi,hs,aU hd',Sem.run_pure,hfalse,hl,aN,if_false,dP,aB hc,Bo,gY,if_true];cases A<;>simp[storeCells]
    rcases o3 with⟨rfl,o4,o5⟩|⟨b',vs,b1,b2,b3,b4,b5,b6⟩
    ·simp at q5 hc;omega
    have q7:=q6 ae;rw[b1]at q7;simp only[cB]at q7;subst q7;have aii:g.cap l=cap:=ae;have hroom:g.off l+(xs.length+ys.length)*bq.sz<=vs.size:=by rw[b3,aii];exact Nat.add_le_add_left (bw _ hc) _
    rw[bJ]at hroom;have hrun:=Gt (P:=P) (r:=r) (b:=b') (o:=g.off l+0*bq.sz) (sLen:=xs.length) h0 h1 hu hd' hd he hl hc (uJ w rfl) b2.1 ae h1c;obtain⟨f1,f2,f3,f4,f5⟩:=jt w b' (g.off l+0*bq.sz+xs.length*bq.sz) news.toList
    obtain⟨r1,r2⟩:=hR.change (o':= .bW T' bq (xs++ys)) (w':=setRow w b' (g.off l+0*bq.sz+xs.length*bq.sz) news.toList) hxs rfl (xs.length+ys.length) (some b') (g.cap l) (g.off l) ae (fun e=>by omega) ae f2 f3 f4
     (fun c lg hne=>f5 c (fun e=>hne (e ▸ b1))) (fun c lg=> .inl (by rw[b1,lg]))
     (fun hm => ⟨by simp [aC.reset], fun i hi => by
       simp only[aG]at hi;by_cases h:i<xs.length
       ·have:=o2 i h;simpa[aO h]using this
       ·obtain⟨j,rfl⟩:∃ j,i=xs.length+j:=⟨i-xs.length,ae⟩;have:=yD j ae;simpa[bx]using this,
       .inr ⟨b',_,by simp[aC.reset],b2.setRow _ _,by rw[size_putRow];simp[aC.reset,b3],by simp[aC.reset];omega,fun i c hi lg=>by
        simp only[aG]at hi;rw[show (g.reset l (xs.length+ys.length) (some b') (g.cap l) (g.off l)).off l=g.off l from by simp[aC.reset]];rw[jd _ _ _ (by simp;omega)];simp only[dB,hsz];by_cases h:i<xs.length
        ·have h2:=mI h lg;rw[aq ae,show(xs++ys).getD i .undef=xs.getD i .undef by simp[aO h]];exact(b5 i c h lg).mono hm
        ·obtain⟨j,rfl⟩:∃ j,i=xs.length+j:=⟨i-xs.length,ae⟩;have hj:j<ys.length:=ae;have h2:=mI hj lg
         rw[bJ,aB ae,show(xs++ys).getD (xs.length+j) .undef=ys.getD j .undef by simp[bx],
          show g.off l+(xs.length*bq.sz+j*bq.sz)+c-(g.off l+0*bq.sz+xs.length*bq.sz)=j*bq.sz+c by omega]
         have:=(hh j c hj lg).mono hm;have h3:j*bq.sz+c<news.size:=ae;simpa[h3]using this,by
        cases T' with
        | none=>trivial
        | some T'=>simp only[aC.reset,if_true];rw[size_putRow];exact⟨(pH _ _ _ _ _).trans b6.1,b6.2⟩⟩⟩)
    refine⟨_,_,_,_,_,hrun,r1,r2,.own _ _ _ _ _ _ ⟨by simp[aC.reset];exact q1,by simp[aC.reset],_,_,rfl,fun _=>⟨ae,by simp[aC.reset];omega,fun _=>by simp[aC.reset]⟩⟩,hK⟩
   
   obtain⟨xs',olds,p1,p2,p3,p4,p5⟩:=mJ (P:=P) (K:=fun zs=>zs=xs) (el:=bq) hR zx (by simp[fL,hxs]);subst p1;obtain⟨cap',rest,dr,k1,k2,k3,k4,k5,k6⟩:=fresh xs' olds A cap rfl ae hr (fun _=>p3 _ rfl) p4 p5 o2;have kE:=hR.drew dr
   obtain⟨r1,r2⟩:=kE.change (o':= .bW T' bq (xs'++ys)) (w':=World.alloc { w with drawn:=dr } (.cells (olds++news++rest) e)) hxs rfl (xs'.length+ys.length) (some w.heap.size) cap' 0 ae
    (fun e => by
      have hys:ys.length=0:=ae;have:¬ (xs'.length<=cap):=ae
      have:xs'.length<=g.cap l:=by
       rcases o3 with⟨rfl,_,_⟩|⟨b',vs,b1,b2,b3,b4,b5⟩
       ·exact cD _
       exact b4
      omega) aT rfl rfl rfl
    (fun c lg _=>heap_alloc_old _ _ lg) (fun c lg=> .inr (by cases lg;exact Nat.le_refl _))
    (fun hm => ⟨by simp [aC.reset], k5, .inr ⟨w.heap.size, _, by simp [aC.reset], mF _ { w with drawn := dr } _ e, by simp only [aC.reset, if_true, bp]; exact k3, by simp [aC.reset]; exact k1, fun i c hi lg => by simp only [aC.reset, if_true, bp]; exact ((k4 i c hi lg).mono (ep.drew σ g w dr).mono).mono hm, by
      simp only[aC.reset,if_true];rcases hTT with rfl|rfl
      ·trivial
      ·exact(hty { w with drawn:=dr } _).v⟩⟩)
   refine⟨_,_,_,_,_,k6,r1,(ep.drew σ g w dr).trans r2,.own _ _ _ _ _ _ ⟨by simp[aC.reset];exact q1,by simp[aC.reset],_,_,rfl,fun _=>⟨ae,by simp[aC.reset],fun _=>by simp[aC.reset]⟩⟩,hK⟩
  exact hK.elim
def QJ {T : Option TypeId} {ats : Array TypeId} {r sT xT e : TypeId} {d : TypeDesc} {el : El} {x y : AV} {a b : Value} {n : Nat} {ys : List AV} (hR : Rel g w σ)
    (h0:ats[0]? = some sT) (h1:ats[1]? = some xT) (hu:P.underlying sT=some (.slice e)) (hd':P.underlying xT=some d) (hd:∀ k,d≠ .int k) (he:iV P e=some el)
    (hx:VR g w x a) (hy:VR g w y b) (hT:T=none\/T=some e) (hn : σ[n]? = some .resv) (hys:Im el y=some ys) (hx0:Il el x=true) (hfit:ys.all (fun a=>a.fits el)=true) (hroom:fE ys.length el)
    (hK:K (.own el n ys.length 0 ys.length) (σ.set n (.bW T el ys))):bD P (Builtin.append_ ats r #[a,b]) g w σ K:=by
 obtain⟨r1,r2⟩:=hR.abn hn T el;obtain⟨v0,b0,c0,_⟩:=hR.ok n _ hn;have hlt:=(aK.1 hn).1
 have hx':VR g w (.own el n 0 0 0) a:=by
  have:∃ base,a = .slice base 0 0:=by
   cases hx<;>simp only[Il]at hx0<;>(try (cases hx0;done))
   case aP=>exact⟨none,rfl⟩
   case iz f aS b cap hf =>
    cases f with
    | false=>cases hx0
    | true=>exact⟨b,by rw[hf rfl]⟩
   case aH f aS xs b off cap hi hf hx ft hc h =>
    cases f with
    | false=>cases hx0
    | true =>
      simp only[aD,List.isEmpty_iff]at hx0;obtain⟨_,rfl⟩:=hx0;exact⟨_,by rw[hf rfl];rfl⟩
  obtain⟨base,rfl⟩:=this;refine .own _ _ _ _ _ _ ⟨by rw[<-hR.len];exact hlt,cD _,base,0,rfl,fun _=>⟨aV _,by rw[c0],fun h=>by rw[c0]at h;exact absurd h (ij _)⟩⟩
 have hA:oc (σ.set n (.bW T el [])) T el (.own el n 0 0 0) y K:=by
  have r8:(σ.set n (.bW T el []))[n]? = some (.bW T el []):=bI hlt
  have key:ys.all (fun a=>a.fits el)=true/\(el=el/\match (σ.set n (.bW T el []))[n]? with
   | some (.bW T' bq xs) => (T' = none \/ T' = T) /\ bq = el /\ 0 = xs.length /\ 0 = 0 /\ 0 = xs.length /\ fE (xs.length + ys.length) el /\
     K (.own el n (xs.length+ys.length) 0 (xs.length+ys.length)) ((σ.set n (.bW T el [])).set n (.bW T' el (xs++ys)))
   | _=>False):=by
   refine⟨hfit,rfl,?_⟩;rw[r8];refine⟨.inr rfl,rfl,rfl,rfl,rfl,by simpa using hroom,?_⟩;simpa[iE]using hK
  unfold oc fL;cases y<;>simp only[Im]at hys<;>(try (cases hys;done))
  ·cases hys;exact key
  split at hys
  ·rename_i h;cases hys;exact⟨h,key⟩
  ·cases hys
 obtain⟨v,w',g',av,σ',q1,q2,q3,q4,q5⟩:=yC r1 h0 h1 hu hd' hd he hx' hy hT hA;exact⟨v,w',g',av,σ',q1,q2,r2.trans q3,q4,q5⟩
end
section
variable {P:Program} {g:aC} {w:World} {σ : ai} {K:AV->ai->Prop}
def F9 {t : TypeId} {n : Nat} {el : TypeId} {fi : TypeInfo} {z : AV} {e : Env} {a : Act} {nt : Nat} {parts : Array (Nat × Operand)} {ps : List ((Nat × Nat) × AX)} (hR : Rel g w σ) (hE : fm nt g w e a.tmps)
    (hz:jv P t=some z) (hu:P.underlying t=some (.array n el)) (hi:P.info? el=some fi)
    (hp:pK nt (fun i=>some (i*P.cellsOf el,P.cellsOf el)) parts.toList=some ps)
    (hK:lP z.cells e (ps.map fun p=>(p.1.1,p.1.2,p.2)) fun cs=>K (.agg cs) σ):bD P (Instr.build t (parts.map fun(i,x)=>(i,a.eval x))) g w σ K:=by
 obtain⟨v,h1,h2⟩:=rm hz w;obtain⟨h3,h4⟩:=h2 g w;obtain⟨h5,h6⟩:=lj h3 h4;obtain⟨cs',us,r1,r2,r3,r4,r5,r6⟩:=IB (fun i=>some (i*P.cellsOf el,P.cellsOf el)) hE parts.toList ps z.cells v.cells _ hp h5 h6 h4 hK;refine bD.pure hR (v:= .agg us) ?_ (.agg cs' us r2 r4 r3) r6;have hc:P.cellsOf el=fi.size:=by simp[Program.cellsOf,hi]
 simp only[Instr.build,Sem.run_bind,h1,Result.andThen_ok,aU hu,c_ hi]
 have FA:Instr.fill (fun i=>some (i*fi.size,fi.size)) v.cells (parts.map fun(i,x)=>(i,a.eval x)).toList=some us:=by
  rw[<-r1,hc]
  congr 1
  simp
 rw[FA];rfl
def IE{el:El}{a:AV}(h:a.fits el=true): a.cells.all AV.scalar=true/\a.cells.length=el.sz/\ ∀ c,c<el.sz->a.cells.getD c .undef=a.cell c:=by
 cases a<;>simp only[AV.fits,Bool.and_eq_true,beq_iff_eq]at h<;>first
  |(obtain⟨⟨_,h2⟩,h3⟩:=h;exact⟨h3,h2,fun _ _=>rfl⟩)
  |(obtain⟨_,h2⟩:=h;exact⟨rfl,by simp[AV.cells,h2],fun c hc=>by rw[show c=0 from by omega];rfl⟩)
  | cases h
def QL {el : El} {e : Env} {a : Act} {nt : Nat} (hE : fm nt g w e a.tmps) : ∀ (parts : List (Nat × Operand)) (ps : List (Nat × AX)) (xs : List AV) (vs : Array Value) (K : List AV -> Prop),
    pK nt some parts=some ps->vs.size=xs.length*el.sz->iB g w el xs vs->(∀ i,i<xs.length->(xs.getD i .undef).fits el=true)->kM el xs e ps K ->
    ∃ xs' us,Instr.fill (fun i=>some (i*el.sz,el.sz)) vs (parts.map fun p=>(p.1,a.eval p.2))=some us/\us.size=xs'.length*el.sz/\xs'.length=xs.length/\iB g w el xs' us/\(∀ i,i<xs'.length->(xs'.getD i .undef).fits el=true)/\K xs':=by
 intro parts
 induction parts with
 | nil =>
   intro ps xs vs K h hs hh hf hK;cases h;exact⟨xs,vs,rfl,hs,rfl,hh,hf,hK⟩
 | cons p parts ih =>
   intro ps xs vs K h hs hh hf hK;obtain⟨i,x⟩:=p;simp only[pK]at h;split at h
   ·rename_i q ax ps' h1 h2 h3;cases h1;cases h;simp only[kM]at hK;obtain⟨k1,k2,k3⟩:=hK;have hv:=bL h2 hE;obtain⟨f1,f2,f3⟩:=IE k1;obtain⟨c1,c2⟩:=lj hv f1
    have hrow:i*el.sz+el.sz<=vs.size:=by
     rw[hs]
     calc i*el.sz+el.sz=(i+1)*el.sz:=by rw[dy]
      _<=xs.length*el.sz:=bw _ k2
    have hput:∀ (us:List Value) (vs:Array Value) (off j:Nat),off+j+us.length<=vs.size->(us.zipIdx j).foldl (fun cs (p:Value × Nat)=>cs.setIfInBounds (off+p.2) p.1) vs=putRow vs (off+j) us:=by
     intro us
     induction us with
     | nil=>intros;rfl
     | cons u us ih =>
       intro vs off j hh;simp only[aE]at hh;simp only[List.zipIdx_cons,List.foldl_cons,putRow];exact ih _ off (j+1) (by simp;omega)
    have Ts:(a.eval x).cells.zipIdx.foldl (fun cs (p:Value × Nat)=>cs.setIfInBounds (i*el.sz+p.2) p.1) vs=putRow vs (i*el.sz) (a.eval x).cells.toList:=by
     have:=hput (a.eval x).cells.toList vs (i*el.sz) 0 (by simp;omega);rw[<-Array.foldl_toList,Array.toList_zipIdx];simpa using this
    obtain⟨xs',us,r1,r2,r3,r4,r5,r6⟩:=ih ps' (xs.set i (ax.ev e)) (putRow vs (i*el.sz) (a.eval x).cells.toList) K h3 (by rw[size_putRow];simpa using hs)
     (fun j c hj hc => by
       simp only[eC]at hj;rw[jd _ _ _ (by simp;omega)];simp only[dB,<-c1,f2];by_cases ej:j=i
       ·subst ej;rw[aB ae,show(xs.set j (ax.ev e)).getD j .undef=ax.ev e by simp[k2],show j*el.sz+c-j*el.sz=c by omega,← f3 c hc];simpa using c2 c ae
       ·have hne : ¬ (i * el.sz <= j * el.sz + c /\ j * el.sz + c < i * el.sz + el.sz) := by
         rintro⟨q1,q2⟩;rcases Nat.lt_or_gt_of_ne ej with h2|h2
         ·have:(j+1)*el.sz<=i*el.sz:=bw _ h2;rw[dy]at this;omega
         have:(i+1)*el.sz<=j*el.sz:=bw _ h2;rw[dy]at this;omega
        rw[aq hne,show(xs.set i (ax.ev e)).getD j .undef=xs.getD j .undef by simp[aI (Ne.symm ej)]];exact hh j c hj hc)
     (fun j hj => by
       simp only[eC]at hj;by_cases ej:j=i
       ·subst ej;simpa[k2]using k1
       ·have:=hf j hj;simpa[aI (Ne.symm ej)]using this) k3
    refine⟨xs',us,?_,r2,by rw[r3];simp,r4,r5,r6⟩;simp only[bN,Instr.fill];have e1:¬ ((a.eval x).cells.size≠el.sz\/vs.size<i*el.sz+(a.eval x).cells.size):=ae;rw[aq (by simpa using e1),Ts];exact r1
   ·cases h
def wg {el : El} {z : AV} {v : Value} (n : Nat) (hz : VR g w z v) (hf : z.fits el = true) (hv : v.cells.size = el.sz) :
    iB g w el (List.replicate n z) ((Array.range (n*el.sz)).map (v.cells[· % v.cells.size]!)):=by
 intro i c hi hc;simp only[cz]at hi;have h2:=mI hi hc;obtain⟨f1,f2,f3⟩:=IE hf;obtain⟨c1,c2⟩:=lj hz f1;have h3:(i*el.sz+c) % el.sz=c:=by rw[Nat.mul_comm,Nat.mul_add_mod];exact iu hc
 have:=c2 c ae;rw[f3 c hc]at this;have e1:(List.replicate n z).getD i .undef=z:=by simp[hi]
 rw[e1]
 have e2:((Array.range (n*el.sz)).map (v.cells[· % v.cells.size]!)).getD (i*el.sz+c) Go.undef=v.cells.getD c Go.undef:=by
  have h4:c<v.cells.size:=ae;have h5:v.cells[c]! = v.cells[c]:=getElem!_pos v.cells c h4;have h6:v.cells.getD c Go.undef=v.cells[c]:=by rw[<-dz (h:=h4)]
  rw[h6,<-h5];simp[h2,hv,h3]
 rw[e2];exact this
def ug{e:TypeId}{el:El}{z:AV}(he:iV P e=some el)(hz:jv P e=some z): ∃ v,(∀ w,(zeroValue e).run P w = .ok v w)/\(∀ g w,VR g w z v)/\v.cells.size=el.sz:=by
 obtain⟨fi,hi,_,hs,_,_,_,v,hv,hvs⟩:=ie he;simp only[jv,hi,hv,Option.bind_some]at hz;exact⟨v,fun w=>by simp[zeroValue,run_typeInfo hi,hv],fun g w=>(J_ hz g w).1,hvs⟩
def RW (hR : Rel g w σ) (e : TypeId) {el : El} {zs : List AV} {vs : Array Value} {cap : Nat} (k1 : zs.length <= cap) (k2 : vs.size = cap * el.sz) (k3 : iB g w el zs vs) (k4 : ∀ i, i < zs.length -> (zs.getD i .undef).fits el = true) :
    ∃ g', Rel g' (World.alloc w (.cells vs e)) (σ ++ [.vec el zs]) /\ ep σ g w (σ ++ [.vec el zs]) g' (World.alloc w (.cells vs e)) /\
      VR g' (World.alloc w (.cells vs e)) (.own el σ.length zs.length 0 zs.length) (.slice (some ⟨w.heap.size,0,none⟩) zs.length cap):=by
 have hm:=kj g w (.cells vs e) zs.length (some w.heap.size) cap hR.lt
 obtain⟨r1,r2⟩:=hR.pG (.cells vs e) (.vec el zs) zs.length cap
  ⟨by simp[aC.push],k4,.inr ⟨w.heap.size,vs,by simp[aC.push],mF _ _ vs e,by simp[aC.push,k2],by simp[aC.push,k1],fun i c hi hc=>by simp only[aC.push,if_true,bp];exact(k3 i c hi hc).mono hm,trivial⟩⟩
 exact⟨_,r1,r2,.own _ _ _ _ _ _ ⟨by simp[aC.push,hR.len],by simp[aC.push,hR.len],_,_,rfl,fun _=>⟨ae,by simp[aC.push,hR.len],fun _=>by simp[aC.push,hR.len]⟩⟩⟩
def abB (hR : Rel g w σ) (e : TypeId) {el : El} {zs : List AV} {vs : Array Value} (k2 : vs.size = zs.length * el.sz) (k3 : iB g w el zs vs) (k4 : ∀ i, i < zs.length -> (zs.getD i .undef).fits el = true) :
    ∃ g', Rel g' (World.alloc w (.cells vs e)) σ /\ ep σ g w σ g' (World.alloc w (.cells vs e)) /\
      VR g' (World.alloc w (.cells vs e)) (.aH true el zs) (.slice (some ⟨w.heap.size,0,none⟩) zs.length zs.length):=by
 have hm:=tg g w (.cells vs e) hR.lt;obtain⟨r1,r2⟩:=hR.NZ (.cells vs e)
 have hcell:∀ i c,i<zs.length->c<el.sz->(World.alloc w (.cells vs e)).cell? ⟨w.heap.size,0+(i*el.sz+c),none⟩=some (vs.getD (i*el.sz+c) Go.undef):=fun i c hi hc=>by
  have h2:=mI hi hc;rw[bp];exact(uH w vs e).cell ae
 exact⟨_,r1,r2,.aH true el zs w.heap.size 0 zs.length (.inr rfl) (fun _=>rfl) (Nat.le_refl _) k4 (fun i c hi hc=>by rw[hcell i c hi hc];rfl) (fun i c hi hc=>by unfold dn;rw[hcell i c hi hc];exact(k3 i c hi hc).mono hm)⟩
def N_ {t e : TypeId} {el : El} {z : AV} {mt : Bool} {n : Nat} {en : Env} {a : Act} {nt : Nat} {parts : Array (Nat × Operand)} {ps : List (Nat × AX)} (hR : Rel g w σ) (hE : fm nt g w en a.tmps)
    (hu:P.underlying t=some (.slice e)) (he:iV P e=some el) (hz:jv P e=some z) (hn:n*el.sz<=2^24) (LO:z.fits el=true) (hp:pK nt some parts.toList=some ps)
    (hK:kM el (List.replicate n z) en ps fun xs=>if mt then K (.own el σ.length n 0 n) (σ++[.vec el xs])else K (.aH true el xs) σ) :
    bD P (Instr.buildSlice t n (parts.map fun(i,x)=>(i,a.eval x))) g w σ K:=by
 obtain⟨v,z1,z2,z3⟩:=ug he hz;obtain⟨fi,hi,_,hs,_⟩:=ie he
 obtain⟨xs,us,r1,r2,r3,r4,r5,r6⟩:=QL (g:=g) (w:=w) (el:=el) hE parts.toList ps (List.replicate n z) ((Array.range (n*el.sz)).map (v.cells[· % v.cells.size]!)) _ hp aT (wg n (z2 g w) LO z3)
  (fun i hi=>by simp only[cz]at hi;simpa[hi]using LO) hK
 simp only[cz]at r3
 have run:(Instr.buildSlice t n (parts.map fun(i,x)=>(i,a.eval x))).run P w = .ok (.slice (some ⟨w.heap.size,0,none⟩) n n) (World.alloc w (.cells us e)):=by
  have hn':¬ (n*el.sz>2^24):=ae
  have FA:Instr.fill (fun i=>some (i*el.sz,el.sz)) ((Array.range (n*el.sz)).map (v.cells[· % v.cells.size]!)) (parts.map fun(i,x)=>(i,a.eval x)).toList=some us:=by
   rw[<-r1];congr 1;simp
  simp only[Instr.buildSlice,Sem.run_bind,aU hu,Result.andThen_ok,c_ hi,hs,aq hn'];by_cases h0:n*el.sz=0
  ·simp only[aB h0];rw[Sem.run_bind,Sem.run_pure,Result.andThen_ok]
   have adl:Instr.fill (fun i=>some (i*el.sz,el.sz)) ((Array.range (n*el.sz)).map ((#[]:Array Value)[· % (#[]:Array Value).size]!)) (parts.map fun(i,x)=>(i,a.eval x)).toList=some us:=by
    rw[<-FA];congr 1;simp[h0]
   rw[adl];rfl
  simp only[aq h0];rw[Sem.run_bind,z1,Result.andThen_ok,Sem.run_bind,Sem.run_pure,Result.andThen_ok];rw[FA];rfl
 cases mt with
 | true =>
   simp only[if_true]at r6;obtain⟨g',q1,q2,q3⟩:=RW hR e (cap:=n) ae (by rw[r2,r3]) r4 r5;rw[r3]at q3;exact⟨_,_,g',_,_,run,q1,q2,q3,r6⟩
 | false =>
   simp only[aN,if_false]at r6;obtain⟨g',q1,q2,q3⟩:=abB hR e r2 r4 r5;rw[r3]at q3;exact⟨_,_,g',_,_,run,q1,q2,q3,r6⟩
def Nk {t e : TypeId} {el : El} {z x y : AV} {a b : Value} (hR : Rel g w σ) (hu : P.underlying t = some (.slice e)) (he : iV P e = some el) (hz : jv P e = some z) (hx : VR g w x a) (hy : VR g w y b)
    (hK : match (generalizing := false) x, y with
      | .int .i64 k,.int .i64 m=>z.fits el=true/\0<=k/\k<=m/\m*(el.sz+1)<=2^40/\K (.own el σ.length k.toNat 0 k.toNat) (σ++[.vec el (List.replicate k.toNat z)])
      | _,_=>False):bD P (Instr.makeSlice t a b) g w σ K:=by
 obtain⟨v,z1,z2,z3⟩:=ug he hz;obtain⟨fi,hi,_,hs,_,hb,hsz,_⟩:=ie he;cases hx<;>(try exact False.elim hK);rename_i k1 k;cases hy<;>(try (cases k1<;>exact False.elim hK));rename_i k2 m;cases k1<;>(try exact False.elim hK);cases k2<;>(try exact False.elim hK);simp only at hK;obtain⟨h1,h2,h3,h4,h5⟩:=hK;obtain⟨k,rfl⟩:=cn h2;obtain⟨m,rfl⟩:=cn (Int.le_trans h2 h3);have h4':m*(el.sz+1)<=2^40:=by exact_mod_cast h4
 have hm:m<=2^40:=bS (Nat.le_mul_of_pos_right m ae) h4';have h40:(2:Nat) ^ 40=1099511627776:=dV;have hkm:k<=m:=ae;have IG:∀ j:Nat,j<=m->IntKind.i64.wrap (j:Int)=j:=fun j hj=>IntWalk.i64_in _ ae
 have Oa:fi.bytes*m<=2^48:=by
  have h6:fi.bytes*m<=24*(el.sz+1)*m:=bw _ hb;have h7:24*(el.sz+1)*m=24*(m*(el.sz+1)):=by rw[Nat.mul_assoc,Nat.mul_comm (el.sz+1) m]
  have h48:(2:Nat) ^ 48=281474976710656:=dV;omega
 have htl:∀ j:Nat,j<=m->((decide ((j:Int)<0) || decide (((fi.bytes:Nat):Int)*(j:Int)>2^48))=false):=fun j hj=>by
  have:fi.bytes*j<=2^48:=bS (Nat.mul_le_mul_left _ hj) Oa;have h9:((fi.bytes:Nat):Int)*(j:Int)<=2^48:=by exact_mod_cast this
  simp only[Bool.or_eq_false_iff,decide_eq_false_iff_not];exact⟨ae,ae⟩
 have YF:((Array.range (m*el.sz)).map (v.cells[· % v.cells.size]!)).size=m*el.sz:=aT
 obtain⟨g',q1,q2,q3⟩:=RW hR e (el:=el) (zs:=List.replicate k z) (vs:=(Array.range (m*el.sz)).map (v.cells[· % v.cells.size]!)) (cap:=m) (by simpa using hkm) YF
  (fun i c hi hc => by
    have:=wg m (z2 g w) h1 z3 i c (by simp at hi |-;omega) hc;simp only[cz]at hi;rw[show (List.replicate k z).getD i .undef=z by simp[hi]];rwa[show (List.replicate m z).getD i .undef=z by simp[show i<m by omega]]at this)
  (fun i hi=>by simp only[cz]at hi;simpa[hi]using h1)
 simp only[cz]at q3;refine⟨_,_,g',_,_,?_,q1,q2,q3,by simpa using h5⟩;unfold Instr.makeSlice;simp only[Sem.run_bind,aU hu,Result.andThen_ok,asInt,asIntOf,Sem.run_pure,run_typeInfo hi,IG k hkm,IG m (aV _)]
 have Tv:¬ (((decide ((m:Int)<0) || decide (((fi.bytes:Nat):Int)*(m:Int)>2^48)) || decide ((k:Int)<0) || decide ((k:Int)>(m:Int)))=true):=by
  rw[htl m (aV _)];simp;omega
 rw[aq Tv];simp only[Sem.run_bind,run_askRoom,Result.andThen_ok,c_ hi,hs,fB];by_cases h0:m*el.sz=0
 ·simp only[aB h0,Sem.run_pure,Result.andThen_ok,newRow,Sem.run_bind,run_newObj];have e9:∀ f:Nat->Value,(Array.range (m*el.sz)).map f = #[]:=fun f=>by simp[h0]
  rw[e9,e9];rfl
 simp only[aq h0,Sem.run_bind,z1,Result.andThen_ok,Sem.run_pure,newRow,run_newObj];rfl
def VF {l : Nat} (hR : Rel g w σ) (hn : σ[l]? = some .resv) (e : TypeId) {el : El} {zs : List AV} {vs : Array Value} {cap : Nat} (k0 : 0 < zs.length) (k1 : zs.length <= cap) (k2 : vs.size = cap * el.sz) (k3 : iB g w el zs vs) (k4 : ∀ i, i < zs.length -> (zs.getD i .undef).fits el = true) :
    ∃ g', Rel g' (World.alloc w (.cells vs e)) (σ.set l (.vec el zs)) /\ ep σ g w (σ.set l (.vec el zs)) g' (World.alloc w (.cells vs e)) /\
      VR g' (World.alloc w (.cells vs e)) (.own el l zs.length 0 zs.length) (.slice (some ⟨w.heap.size,0,none⟩) zs.length cap):=by
 obtain⟨mz,hb0,_⟩:=hR.ok l _ hn;have hnn:l<g.n:=by rw[<-hR.len];exact(aK.1 hn).1
 obtain⟨r1,r2⟩:=hR.change (w':=w.alloc (.cells vs e)) (o':= .vec el zs) hn rfl zs.length (some w.heap.size) cap 0 ae (fun h=>by omega) aT rfl rfl rfl
  (fun b hb _=>heap_alloc_old w _ hb) (fun b hb=>by cases hb;exact .inr (Nat.le_refl _))
  (fun hm=>⟨by simp[aC.reset],k4,.inr ⟨w.heap.size,vs,by simp[aC.reset],mF _ _ vs e,by simp[aC.reset,k2],by simp[aC.reset,k1],fun i c hi hc=>by simp only[aC.reset,if_true,bp];exact(k3 i c hi hc).mono hm,trivial⟩⟩)
 exact⟨_,r1,r2,.own _ _ _ _ _ _ ⟨by simp[aC.reset];exact hnn,by simp[aC.reset],_,_,rfl,fun _=>⟨ae,by simp[aC.reset],fun _=>by simp[aC.reset]⟩⟩⟩
def QM {t e : TypeId} {el : El} {z x y : AV} {a b : Value} {l : Nat} (hR : Rel g w σ) (hn : σ[l]? = some .resv) (hu : P.underlying t = some (.slice e)) (he : iV P e = some el) (hz : jv P e = some z) (hx : VR g w x a) (hy : VR g w y b)
    (hK : match (generalizing := false) x, y with
      | .int .i64 k,.int .i64 m=>z.fits el=true/\0<k/\k<=m/\m*(el.sz+1)<=2^40/\K (.own el l k.toNat 0 k.toNat) (σ.set l (.vec el (List.replicate k.toNat z)))
      | _,_=>False):bD P (Instr.makeSlice t a b) g w σ K:=by
 obtain⟨v,z1,z2,z3⟩:=ug he hz;obtain⟨fi,hi,_,hs,_,hb,hsz,_⟩:=ie he;cases hx<;>(try exact False.elim hK);rename_i k1 k;cases hy<;>(try (cases k1<;>exact False.elim hK));rename_i k2 m;cases k1<;>(try exact False.elim hK);cases k2<;>(try exact False.elim hK);simp only at hK;obtain⟨h1,h2,h3,h4,h5⟩:=hK;have hpos:=h2
 replace h2:=Int.le_of_lt h2
 obtain⟨k,rfl⟩:=cn h2;obtain⟨m,rfl⟩:=cn (Int.le_trans h2 h3);have h4':m*(el.sz+1)<=2^40:=by exact_mod_cast h4
 have hm:m<=2^40:=bS (Nat.le_mul_of_pos_right m ae) h4';have h40:(2:Nat) ^ 40=1099511627776:=dV;have hkm:k<=m:=ae;have IG:∀ j:Nat,j<=m->IntKind.i64.wrap (j:Int)=j:=fun j hj=>IntWalk.i64_in _ ae
 have Oa:fi.bytes*m<=2^48:=by
  have h6:fi.bytes*m<=24*(el.sz+1)*m:=bw _ hb;have h7:24*(el.sz+1)*m=24*(m*(el.sz+1)):=by rw[Nat.mul_assoc,Nat.mul_comm (el.sz+1) m]
  have h48:(2:Nat) ^ 48=281474976710656:=dV;omega
 have htl:∀ j:Nat,j<=m->((decide ((j:Int)<0) || decide (((fi.bytes:Nat):Int)*(j:Int)>2^48))=false):=fun j hj=>by
  have:fi.bytes*j<=2^48:=bS (Nat.mul_le_mul_left _ hj) Oa;have h9:((fi.bytes:Nat):Int)*(j:Int)<=2^48:=by exact_mod_cast this
  simp only[Bool.or_eq_false_iff,decide_eq_false_iff_not];exact⟨ae,ae⟩
 have YF:((Array.range (m*el.sz)).map (v.cells[· % v.cells.size]!)).size=m*el.sz:=aT
 obtain⟨g',q1,q2,q3⟩:=VF hR hn e (el:=el) (zs:=List.replicate k z) (vs:=(Array.range (m*el.sz)).map (v.cells[· % v.cells.size]!)) (cap:=m) (by simp;omega) (by simpa using hkm) YF
  (fun i c hi hc => by
    have:=wg m (z2 g w) h1 z3 i c (by simp at hi |-;omega) hc;simp only[cz]at hi;rw[show (List.replicate k z).getD i .undef=z by simp[hi]];rwa[show (List.replicate m z).getD i .undef=z by simp[show i<m by omega]]at this)
  (fun i hi=>by simp only[cz]at hi;simpa[hi]using h1)
 simp only[cz]at q3;refine⟨_,_,g',_,_,?_,q1,q2,q3,by simpa using h5⟩;unfold Instr.makeSlice;simp only[Sem.run_bind,aU hu,Result.andThen_ok,asInt,asIntOf,Sem.run_pure,run_typeInfo hi,IG k hkm,IG m (aV _)]
 have Tv:¬ (((decide ((m:Int)<0) || decide (((fi.bytes:Nat):Int)*(m:Int)>2^48)) || decide ((k:Int)<0) || decide ((k:Int)>(m:Int)))=true):=by
  rw[htl m (aV _)];simp;omega
 rw[aq Tv];simp only[Sem.run_bind,run_askRoom,Result.andThen_ok,c_ hi,hs,fB];by_cases h0:m*el.sz=0
 ·simp only[aB h0,Sem.run_pure,Result.andThen_ok,newRow,Sem.run_bind,run_newObj];have e9:∀ f:Nat->Value,(Array.range (m*el.sz)).map f = #[]:=fun f=>by simp[h0]
  rw[e9,e9];rfl
 simp only[aq h0,Sem.run_bind,z1,Result.andThen_ok,Sem.run_pure,newRow,run_newObj];rfl
def VG {t u e : TypeId} {fi : TypeInfo} {x : AV} {a : Value} (hR : Rel g w σ) (hs : P.underlying t = some .string) (hu : P.underlying u = some (.slice e)) (he : P.underlying e = some (.int .u8)) (hx : VR g w x a)
    (hK : match (generalizing := false) x with
      | .str s=>s.length<=2^40/\K (.own ⟨false,1⟩ σ.length s.length 0 s.length) (σ++[.vec ⟨false,1⟩ (s.map fun b=> .int .u8 b.toNat)])
      | _=>False):bD P (convert t u a) g w σ K:=by
 cases hx<;>simp only at hK
 case str s =>
  obtain⟨h1,hK⟩:=hK
  let q:Question:= .appendCap s.length 0 e
  let cap:=q.cut (w.tape w.drawn q)
  have hcap:s.length<=cap:=by simp only[cap,q,Question.cut];omega
  have hsz:(⟨s.toArray⟩:ByteArray).size=s.length:=eM
  let vs:Array Value:=(s.toArray.map fun b=>Value.int .u8 b.toNat)++Array.replicate (cap-s.length) (.int .u8 0)
  have hvs:vs.size=cap:=by simp[vs];omega
  let w1:World:= { w with drawn:=w.drawn+1 }
  let w2:World:=World.alloc w1 (.cells vs e (vs.size,vs.size+1))
  have kE:=hR.drew (w.drawn+1);have hm:=kj g w1 (.cells vs e (vs.size,vs.size+1)) s.length (some w.heap.size) cap kE.lt
  have hrow:Row w2 w.heap.size vs:=⟨e,_,heap_alloc_new w1 _,fun i hi=>by
   have:=heap_alloc_new w1 (.cells vs e (vs.size,vs.size+1));simp only[World.frozen?,show w2.heap[w.heap.size]? = some (.cells vs e (vs.size,vs.size+1)) from this];simp;omega⟩
  obtain⟨r1,r2⟩:=kE.pG (.cells vs e (vs.size,vs.size+1)) (.vec ⟨false,1⟩ (s.map fun b=> .int .u8 b.toNat)) s.length cap
   ⟨by simp [aC.push], fun i hi => by simp at hi; simp [hi, AV.fits], .inr ⟨w.heap.size, vs, by simp [aC.push, w1], ⟨hrow, fun h => by cases h⟩, by simp [aC.push, hvs], by simp [aC.push, hcap], fun i c hi hc => by
     simp only[c8]at hi;have:c=0:=by simp at hc;omega
     subst this
     have e1:vs.getD (i*1+0) Go.undef = .int .u8 (s[i]).toNat:=by
      have h3:i<(s.toArray.map fun b=>Value.int .u8 b.toNat).size:=by simpa using hi
      simp only[Nat.mul_one,dP,vs];rw[bQ,bT h3];simp[hi]
     simp only[aC.push,if_true,bp];rw[e1];simp[hi,AV.cell];exact .int _ _,trivial⟩⟩
  refine⟨.slice (some ⟨w.heap.size,0,none⟩) s.length cap,w2,_,_,_,?_,r1,(ep.drew σ g w (w.drawn+1)).trans r2,
   .own _ _ _ _ _ _ ⟨by simp[aC.push,hR.len],by simp[aC.push,hR.len],_,_,rfl,fun _=>⟨ae,by simp[aC.push,hR.len],fun _=>by simp[aC.push,hR.len,w1]⟩⟩,hK⟩
  have hrun:∀ vs':Array Value,vs'=vs->(do
   let a ← newRow e vs'
   markStringish a
   pure (Value.slice (some a) s.length cap):Sem Value).run P w1 = .ok (.slice (some ⟨w.heap.size,0,none⟩) s.length cap) w2:=fun vs' hv=>by
   subst hv;simp only[newRow,markStringish,Sem.run_bind,run_newObj,Result.andThen_ok,Sem.run_pure,run_shape];have h1:(World.alloc w1 (.cells vs e)).heap[w.heap.size]? = some (.cells vs e):=heap_alloc_new w1 _;have h2:(World.alloc w1 (.cells vs e)).shape? w.heap.size=some (e,vs.size):=by simp only[World.shape?,h1]
   rw[show ({ w1 with heap:=w1.heap.push (.cells vs e) }:World)=World.alloc w1 (.cells vs e) from rfl];rw[show w1.heap.size=w.heap.size from rfl,h2];simp only[run_freeze,Result.andThen_ok]
   congr 1
   simp only[World.freeze,w2,World.alloc];rw[aq ae]
   congr 1
   apply Array.ext_getElem?;intro i;rw[Array.getElem?_modify];by_cases hi:w.heap.size=i
   ·subst hi;rw[aB rfl];have e1:(w1.heap.push (.cells vs e))[w.heap.size]? = some (.cells vs e):=h1;have e2:(w1.heap.push (.cells vs e (vs.size,vs.size+1)))[w.heap.size]? = some (.cells vs e (vs.size,vs.size+1)):=heap_alloc_new w1 _;rw[e1,e2];rfl
   rw[aq hi,Array.getElem?_push,Array.getElem?_push];have:¬ i=w1.heap.size:=fun h=>hi h.symm;rw[aq this,aq this]
  have ake:((⟨s.toArray⟩:ByteArray).data.map fun b=>Value.int .u8 b.toNat)++Array.replicate (cap-s.length) (Value.int .u8 0)=vs:=rfl;have:=hrun _ ake;simp only[Sem.run_bind]at this;simp only[convert,Sem.run_bind,aU hs,aU hu,Result.andThen_ok,aU he,Conv.stringToBytes,hsz];rw[run_choose];simp only[show (Question.appendCap s.length 0 e).forced=false from rfl,aN,if_false,Result.andThen_ok];exact this
def VH {t u e : TypeId} {x : AV} {a : Value} (hR : Rel g w σ) (hs : P.underlying t = some (.slice e)) (hu : P.underlying u = some .string) (he : P.underlying e = some (.int .u8)) (hx : VR g w x a)
    (hK:fL σ ⟨false,1⟩ x fun xs=> ∃ s:List UInt8,xs=s.map (fun b=>AV.int .u8 b.toNat)/\K (.str s) σ) (hsl:∃ A n c,a = .slice A n c):bD P (convert t u a) g w σ K:=by
 obtain⟨xs,us,⟨s,hxs,hK⟩,hl,uJ,hsz,hh⟩:=mJ (P:=P) hR hx hK;obtain⟨A,n,c,rfl⟩:=hsl;subst hxs;simp only[c8,Nat.mul_one]at hl uJ hsz
 have vG:us=(s.map fun b=>Value.int .u8 b.toNat).toArray:=by
  apply Array.ext
  ·simp[hsz]
  intro i h1 h2;have:=hh i 0 (by simp;omega) aT;simp only[Nat.mul_one,dP]at this;rw[<-dz (h:=h1)]at this;have h3:i<s.length:=ae;have e1:((s.map fun b=>AV.int .u8 b.toNat).getD i .undef).cell 0 = .int .u8 (s[i]).toNat:=by simp[h3,AV.cell]
  rw[e1]at this;cases h4:us[i]with
  | int k m=>rw[h4]at this;cases this;simp
  | _=>rw[h4]at this;cases this
 simp only[Builtin.lenOf,Sem.run_pure]at hl;cases hl
 have loop:∀ (f:Value->ByteArray->Sem (ForInStep ByteArray)),(∀(b:UInt8) (r:ByteArray),f (.int .u8 b.toNat) r=Pure.pure (.yield (r.push b)))-> ∀(l:List UInt8) (acc:ByteArray) (w:World),(forIn (l.map fun b=>Value.int .u8 b.toNat) acc f).run P w = .ok (l.foldl ByteArray.push acc) w:=by
  intro f hf l
  induction l with
  | nil=>intro acc w;rfl
  | cons b l ih =>
    intro acc w;simp only[bN,List.forIn_cons,hf,Sem.run_bind,Sem.run_pure,Result.andThen_ok,List.foldl_cons];exact ih _ w
 have aij:∀ (l:List UInt8) (acc:ByteArray),(l.foldl ByteArray.push acc)=⟨acc.data++l.toArray⟩:=by
  intro l
  induction l with
  | nil=>intro acc;simp
  | cons b l ih=>intro acc;rw[List.foldl_cons,ih];simp[ByteArray.push]
 refine bD.pure hR (v:= .string ⟨s.toArray⟩) ?_ (.str s) hK;simp only[convert,Sem.run_bind,aU hs,aU hu,Result.andThen_ok,aU he];cases A with
 | none =>
   have:s=[]:=by
    have:=uJ w rfl;simp only[Builtin.firstCells,Sem.run_pure]at this;cases this;have:(0:Nat)=s.length:=by simpa using hsz
    exact eA this.symm
   subst this;rfl
 | some A =>
   have h1:=uJ w rfl;simp only[Builtin.firstCells,Nat.mul_one]at h1;simp only[Conv.bytesToString,Sem.run_bind,h1,Result.andThen_ok];rw[vG,<-Array.forIn_toList];rw[show (List.map (fun b=>Value.int .u8 (b.toNat:Int)) s).toArray.toList=List.map (fun b=>Value.int .u8 (b.toNat:Int)) s from rfl];rw[loop _ (fun b r=>by simp) s ByteArray.empty w,aij];simp
def VI {op : BinOp} {t : TypeId} {ox oy : Operand} (hop : op = .eql \/ op = .neq) (hc : kV ox = true \/ kV oy = true) (a b : Value) (ha : ∀ cs, a ≠ .agg cs) (w : World) :
    (eqGuard op t ox oy a b).run P w = .ok () w:=by
 by_cases h:a = .nilIface/\b = .nilIface
 ·obtain⟨rfl,rfl⟩:=h;rcases hc with h|h
  ·cases ox <;> simp only [kV] at h <;> first
    |(cases h;done)
    |(rcases hop with rfl|rfl<;>rfl)
  ·cases oy <;> simp only [kV] at h <;> first
    |(cases h;done)
    |(rcases hop with rfl|rfl<;>cases ox<;>rfl)
 rcases hop with rfl|rfl<;>cases a<;>first
  | exact absurd rfl (ha _)
  | rfl
  |(cases b<;>first|rfl|exact absurd ⟨rfl,rfl⟩ h)
def DC {t : TypeId} {ms : Array (String × TypeId)} (hu : P.underlying t = some (.interface ms)) (u : TypeId) (x : Value) (D : Nat) (w : World) :
    (Op.equalIn (D+1) t .nilIface .nilIface).run P w = .ok true w/\(Op.equalIn (D+1) t .nilIface (.iface u x)).run P w = .ok false w/\(Op.equalIn (D+1) t (.iface u x) .nilIface).run P w = .ok false w:=by
 refine⟨?_,?_,?_⟩<;>simp[Op.equalIn,aU hu]
def Hj {t : TypeId} {ps rs : Array TypeId} {vd : Bool} (hu : P.underlying t = some (.func ps rs vd)) (u : Fn) (x y : Array Value) (D : Nat) (w : World) :
    (Op.equalIn (D+1) t .nilFunc .nilFunc).run P w = .ok true w/\(Op.equalIn (D+1) t .nilFunc (.func u x y)).run P w = .ok false w/\(Op.equalIn (D+1) t (.func u x y) .nilFunc).run P w = .ok false w:=by
 refine⟨?_,?_,?_⟩<;>simp[Op.equalIn,aU hu]
def LP {t : TypeId} {kt et : TypeId} (hu : P.underlying t = some (.map kt et)) (p : Option Nat) (D : Nat) (w : World) :
    (Op.equalIn (D+1) t (.map none) (.map p)).run P w = .ok p.isNone w/\(Op.equalIn (D+1) t (.map p) (.map none)).run P w = .ok p.isNone w:=by
 constructor
 ·simp[Op.equalIn,aU hu]
 ·cases p<;>simp[Op.equalIn,aU hu]
def Gu {op : BinOp} {t : TypeId} {k : NK} {x y : AV} {a b : Value} {ox oy : Operand} {d : TypeDesc} (hop : op = .eql \/ op = .neq) (hR : Rel g w σ) (hu : P.underlying t = some d)
    (hd:J9 d=some k) (hc:kV ox=true\/kV oy=true) (hx:VR g w x a) (hy:VR g w y b)
    (hK : match (generalizing := false) n8 k x y with
      | some r=>K (.bool (if op = .neq then !r else r)) σ
      | none=>False):bD P (do eqGuard op t ox oy a b;binOp op t a b) g w σ K:=by
 have fin:∀ r,(eqGuard op t ox oy a b).run P w = .ok () w->(Op.equalIn 10000 t a b).run P w = .ok r w->(∀ k n,a≠ .int k n)->(∀ k n,a≠ .float k n)->(∀ k n m,a≠ .complex k n m)->(∀ s,a≠ .string s) ->
  K (.bool (if op = .neq then !r else r)) σ->bD P (do eqGuard op t ox oy a b;binOp op t a b) g w σ K:=by
  intro r h1 h2 n1 n2 n3 n4 hk;refine bD.pure hR (v:= .bool (if op = .neq then !r else r)) ?_ (.bool _) hk;simp only[Sem.run_bind,h1,Result.andThen_ok]
  have e1:(binOp .eql t a b).run P w = .ok (.bool r) w:=by
   cases a<;>first
    | exact absurd rfl (n1 _ _)
    | exact absurd rfl (n2 _ _)
    | exact absurd rfl (n3 _ _ _)
    | exact absurd rfl (n4 _)
    | simp[binOp,Op.equal,Op.maxDepth,h2]
  have e2:(binOp .neq t a b).run P w = .ok (.bool (!r)) w:=by
   cases a<;>first
    | exact absurd rfl (n1 _ _)
    | exact absurd rfl (n2 _ _)
    | exact absurd rfl (n3 _ _ _)
    | exact absurd rfl (n4 _)
    | simp[binOp,Op.equal,Op.maxDepth,h2]
  rcases hop with rfl|rfl
  ·exact e1
  exact e2
 have qK:∀ (_:True),(∀ cs,a≠ .agg cs)->(eqGuard op t ox oy a b).run P w = .ok () w:=fun _ ha=>VI hop hc a b ha w;cases d<;>simp only[J9]at hd<;>(try cases hd)
 case pointer.refl elem =>
  have akf:∀ p:Option Addr,(Op.equalIn 10000 t (.pointer none) (.pointer p)).run P w = .ok p.isNone w:=fun p=>(LL hu p 9999).1;have akg:∀ p:Option Addr,(Op.equalIn 10000 t (.pointer p) (.pointer none)).run P w = .ok p.isNone w:=fun p=>(LL hu p 9999).2
  have ptr:∀ (z:AV) (v:Value) (r:Bool),VR g w z v->pI .p z=some r-> ∃ p,v = .pointer p/\p.isNone=r:=by
   intro z v r hz h;cases hz<;>simp only[pI]at h<;>(try cases h)
   case ref.refl h=>obtain⟨_,A,rfl,_⟩:=h;exact⟨_,rfl,rfl⟩
   case cN.refl=>exact⟨_,rfl,rfl⟩
   case dw.refl h=>obtain⟨_,_,A,rfl,_⟩:=h;exact⟨_,rfl,rfl⟩
   case ew.refl=>exact⟨_,rfl,rfl⟩
  simp only[n8]at hK;split at hK
  ·rename_i r hr;split at hr
   ·rename_i r' h1 h2;cases hr;obtain⟨p,rfl,hp⟩:=ptr _ _ _ hx h1;obtain⟨q,rfl,hq⟩:=ptr _ _ _ hy h2;have:p=none:=by simpa using hp
    subst this;exact fin _ (qK trivial aT) (by rw[akf,hq]) aT aT aT aT hK
   ·rename_i h1 h2;cases hr;obtain⟨p,rfl,hp⟩:=ptr _ _ _ hx h1;obtain⟨q,rfl,hq⟩:=ptr _ _ _ hy h2;have:q=none:=by simpa using hq
    subst this;exact fin _ (qK trivial aT) (by rw[akg,hp]) aT aT aT aT hK
   ·cases hr
  exact hK.elim
 case interface.refl ms =>
  have iS:∀ (z:AV) (v:Value) (r:Bool),VR g w z v->pI .i z=some r->(r=true/\v = .nilIface)\/(r=false/\ ∃ u x,v = .iface u x):=by
   intro z v r hz h;cases hz<;>simp only[pI]at h<;>(try cases h)
   case eG.refl=>exact .inl ⟨rfl,rfl⟩
   case iS.refl=>exact .inr ⟨rfl,_,_,rfl⟩
  simp only[n8]at hK;split at hK
  ·rename_i r hr;split at hr
   ·rename_i r' h1 h2;cases hr;rcases iS _ _ _ hx h1 with⟨_,rfl⟩|⟨e,_⟩
    ·rcases iS _ _ _ hy h2 with⟨rfl,rfl⟩|⟨rfl,u,v,rfl⟩
     ·exact fin true (qK trivial aT) (DC hu 0 .nilIface 9999 w).1 aT aT aT aT hK
     exact fin false (qK trivial aT) (DC hu u v 9999 w).2.1 aT aT aT aT hK
    ·cases e
   ·rename_i h1 h2;cases hr;rcases iS _ _ _ hx h1 with⟨e,_⟩|⟨_,u,v,rfl⟩
    ·cases e
    rcases iS _ _ _ hy h2 with⟨_,rfl⟩|⟨e,_⟩
    ·exact fin false (qK trivial aT) (DC hu u v 9999 w).2.2 aT aT aT aT hK
    ·cases e
   ·cases hr
  exact hK.elim
 case func.refl ps rs vd =>
  have fnk:∀ (z:AV) (v:Value) (r:Bool),VR g w z v->pI .f z=some r->(r=true/\v = .nilFunc)\/(r=false/\ ∃ u x y,v = .func u x y):=by
   intro z v r hz h;cases hz<;>simp only[pI]at h<;>(try cases h)
   case ld.refl=>exact .inl ⟨rfl,rfl⟩
   case fn.refl=>exact .inr ⟨rfl,_,_,_,rfl⟩
  simp only[n8]at hK;split at hK
  ·rename_i r hr;split at hr
   ·rename_i r' h1 h2;cases hr;rcases fnk _ _ _ hx h1 with⟨_,rfl⟩|⟨e,_⟩
    ·rcases fnk _ _ _ hy h2 with⟨rfl,rfl⟩|⟨rfl,u,v,z,rfl⟩
     ·exact fin true (qK trivial aT) (Hj hu (.func 0) #[] #[] 9999 w).1 aT aT aT aT hK
     exact fin false (qK trivial aT) (Hj hu u v z 9999 w).2.1 aT aT aT aT hK
    ·cases e
   ·rename_i h1 h2;cases hr;rcases fnk _ _ _ hx h1 with⟨e,_⟩|⟨_,u,v,z,rfl⟩
    ·cases e
    rcases fnk _ _ _ hy h2 with⟨_,rfl⟩|⟨e,_⟩
    ·exact fin false (qK trivial aT) (Hj hu u v z 9999 w).2.2 aT aT aT aT hK
    ·cases e
   ·cases hr
  exact hK.elim
 case map.refl kt et =>
  have mpk:∀ (z:AV) (v:Value) (r:Bool),VR g w z v->pI .m z=some r-> ∃ p,v = .map p/\p.isNone=r:=by
   intro z v r hz h;cases hz<;>simp only[pI]at h<;>(try cases h)
   case iU.refl=>exact⟨_,rfl,rfl⟩
   case mp.refl h=>obtain⟨_,A,rfl,_⟩:=h;exact⟨_,rfl,rfl⟩
  simp only[n8]at hK;split at hK
  ·rename_i r hr;split at hr
   ·rename_i r' h1 h2;cases hr;obtain⟨p,rfl,hp⟩:=mpk _ _ _ hx h1;obtain⟨q,rfl,hq⟩:=mpk _ _ _ hy h2;have:p=none:=by simpa using hp
    subst this;exact fin _ (qK trivial aT) (by rw[<-hq];exact(LP hu q 9999 w).1) aT aT aT aT hK
   ·rename_i h1 h2;cases hr;obtain⟨p,rfl,hp⟩:=mpk _ _ _ hx h1;obtain⟨q,rfl,hq⟩:=mpk _ _ _ hy h2;have:q=none:=by simpa using hq
    subst this;exact fin _ (qK trivial aT) (by rw[<-hp];exact(LP hu p 9999 w).2) aT aT aT aT hK
   ·cases hr
  exact hK.elim
def Ob{t e:TypeId}(hu:P.underlying t=some (.slice e))(p:Option Addr)(n cap D:Nat)(w:World): (Op.equalIn (D+1) t (.slice p n cap) (.slice none 0 0)).run P w = .ok p.isNone w:=by
 cases p<;>simp[Op.equalIn,aU hu]
def Bp {op : BinOp} {t e : TypeId} {x : AV} {a : Value} {ox oy : Operand} (hop : op = .eql \/ op = .neq) (hR : Rel g w σ) (hu : P.underlying t = some (.slice e)) (hx : VR g w x a)
    (hK:qY σ x fun r=>K (.bool (if op = .neq then !r else r)) σ):bD P (do eqGuard op t ox oy a (.slice none 0 0);binOp op t a (.slice none 0 0)) g w σ K:=by
 have fin:∀ (p:Option Addr) (n cap:Nat),K (.bool (if op = .neq then !p.isNone else p.isNone)) σ->bD P (do eqGuard op t ox oy (.slice p n cap) (.slice none 0 0);binOp op t (.slice p n cap) (.slice none 0 0)) g w σ K:=by
  intro p n cap hk;have h2:(Op.equalIn 10000 t (.slice p n cap) (.slice none 0 0)).run P w = .ok p.isNone w:=Ob hu p n cap 9999 w;have h1:(eqGuard op t ox oy (.slice p n cap) (.slice none 0 0)).run P w = .ok () w:=by rcases hop with rfl|rfl<;>rfl
  refine bD.pure hR (v:= .bool (if op = .neq then !p.isNone else p.isNone)) ?_ (.bool _) hk;simp only[Sem.run_bind,h1,Result.andThen_ok];rcases hop with rfl|rfl<;>simp[binOp,Op.equal,Op.maxDepth,h2]
 unfold qY at hK;cases hx<;>(try exact False.elim hK)
 case aP=>exact fin none 0 0 hK
 case aH f el xs b off cap sV hf z_ ft hc h =>
  cases xs with
  | nil=>exact False.elim hK
  | cons x xs=>exact fin (some _) _ _ hK
 case lX el p n A cap hn hc h=>exact fin (some A) n cap hK
 case own el l m lo n h =>
  obtain⟨q1,q2,A,cap,rfl,q3⟩:=h;dsimp only at hK;split at hK
  ·rename_i T aS xs hxs;obtain⟨rfl,hn,hK⟩:=hK;obtain⟨o1,o2,o3⟩:=hR.ok l _ hxs;obtain⟨q4,q5,q6⟩:=q3 o1.symm;rcases o3 with⟨rfl,_,_⟩|⟨b,vs,b1,b2,b3,b4,b5⟩
   ·simp at q4;omega
   have q7:=q6 ae;rw[b1]at q7;simp only[cB]at q7;subst q7;exact fin (some _) n cap hK
  exact hK.elim
def II {op : BinOp} {t e : TypeId} {x : AV} {a : Value} {ox oy : Operand} (hop : op = .eql \/ op = .neq) (hR : Rel g w σ) (hu : P.underlying t = some (.slice e)) (hx : VR g w x a)
    (hK:Fy σ x fun r=>K (.bool (if op = .neq then !r else r)) σ):bD P (do eqGuard op t ox oy a (.slice none 0 0);binOp op t a (.slice none 0 0)) g w σ K:=by
 have fin:∀ (p:Option Addr) (n cap:Nat),K (.bool (if op = .neq then !p.isNone else p.isNone)) σ->bD P (do eqGuard op t ox oy (.slice p n cap) (.slice none 0 0);binOp op t (.slice p n cap) (.slice none 0 0)) g w σ K:=by
  intro p n cap hk;have h2:(Op.equalIn 10000 t (.slice p n cap) (.slice none 0 0)).run P w = .ok p.isNone w:=Ob hu p n cap 9999 w;have h1:(eqGuard op t ox oy (.slice p n cap) (.slice none 0 0)).run P w = .ok () w:=by rcases hop with rfl|rfl<;>rfl
  refine bD.pure hR (v:= .bool (if op = .neq then !p.isNone else p.isNone)) ?_ (.bool _) hk;simp only[Sem.run_bind,h1,Result.andThen_ok];rcases hop with rfl|rfl<;>simp[binOp,Op.equal,Op.maxDepth,h2]
 by_cases he:∃ f el,x = .aH f el []
 ·obtain⟨f,el,rfl⟩:=he;obtain⟨k1,k2⟩:=(show _/\_ from hK)
  have both:∀ p:Option Addr,K (.bool (if op = .neq then !p.isNone else p.isNone)) σ:=fun p=>by
   cases p
   ·exact k1
   exact k2
  cases hx with
  | iz f el b cap hf=>exact fin b 0 cap (both b)
  | aH f el xs b off cap sV hf z_ ft hc h=>exact fin (some _) _ _ k2
 replace hK:qY σ x fun r=>K (.bool (if op = .neq then !r else r)) σ:=by
  unfold Fy at hK;split at hK
  ·exact absurd ⟨_,_,rfl⟩ he
  exact hK
 exact Bp hop hR hu hx hK
end
