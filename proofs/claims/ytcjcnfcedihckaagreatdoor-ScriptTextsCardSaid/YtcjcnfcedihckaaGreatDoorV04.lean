/- Part. -/
import Derived.Test.YtcjcnfcedihckaaGreatDoorV03
import Derived.Laws.StructEq
import Derived.ChangeKeysEq
set_option linter.all false
namespace Go.AM
section
variable {P:Program} {g:aM} {w:World} {σ : ae} {K:AV->ae->Prop}
def LR(l:List UInt8): (⟨l.toArray⟩:ByteArray).toList=l:=by
 have key:∀ (n:Nat) (b:ByteArray) (i:Nat) (r:List UInt8),b.size-i=n->ByteArray.toList.loop b i r=r.reverse++b.data.toList.drop i:=by
  intro n
  induction n with
  | zero =>
    intro b i r h;unfold ByteArray.toList.loop;rw[if_neg (by omega)]
    have:b.data.toList.length<=i:=by
     have:b.data.toList.length=b.size:=by rw[iz];rfl
     omega
    rw[iF this,List.append_nil]
  | succ n ih =>
    intro b i r h;have hi:i<b.size:=by omega
    unfold ByteArray.toList.loop;rw[if_pos hi,ih b (i+1) _ (by omega)];have hi':i<b.data.toList.length:=by rw[iz];exact hi
    have LS:i<b.data.size:=hi;rw[ez hi',List.reverse_cons,List.append_assoc,List.singleton_append]
    congr 2
    show b.data[i]! = _;rw[getElem!_pos b.data i LS];simp
 have:=key _ ⟨l.toArray⟩ 0 [] rfl;simpa[ByteArray.toList]using this
def A4 (t : TypeId) (k : IntKind) (n m : Int) (w : World) :
    (binOp .add t (.int k n) (.int k m)).run P w = .ok (.int k (eS k (n+m))) w/\(binOp .sub t (.int k n) (.int k m)).run P w = .ok (.int k (eS k (n-m))) w /\
    (binOp .mul t (.int k n) (.int k m)).run P w = .ok (.int k (eS k (n*m))) w:=by
 simp[binOp,Op.intArith,eS]
def Py (t : TypeId) (k : IntKind) (n m : Int) (w : World) (h : m ≠ 0) :
    (binOp .quo t (.int k n) (.int k m)).run P w = .ok (.int k (eS k (n.tdiv m))) w/\(binOp .rem t (.int k n) (.int k m)).run P w = .ok (.int k (n.tmod m)) w:=by
 simp[binOp,Op.intDiv,eS,h]
def yV (t : TypeId) (k : IntKind) (n m : Int) (w : World) :
    (binOp .and t (.int k n) (.int k m)).run P w = .ok (.int k (lT .and k n m)) w/\(binOp .or t (.int k n) (.int k m)).run P w = .ok (.int k (lT .or k n m)) w /\
    (binOp .xor t (.int k n) (.int k m)).run P w = .ok (.int k (lT .xor k n m)) w/\(binOp .andNot t (.int k n) (.int k m)).run P w = .ok (.int k (lT .andNot k n m)) w:=by
 simp[binOp,Op.intBits,lT]
def JC (t : TypeId) (k k' : IntKind) (n m : Int) (w : World) (h : 0 <= m) :
    (binOp .shl t (.int k n) (.int k' m)).run P w = .ok (.int k (eS k (n*2 ^ (Nat.min m.toNat k.bits)))) w/\(binOp .shr t (.int k n) (.int k' m)).run P w = .ok (.int k (n.fdiv (2 ^ (Nat.min m.toNat k.bits)))) w:=by
 have h1:¬ m<0:=by omega
 simp[binOp,Op.shift,eS,h1,Nat.min_def]
def uX (t : TypeId) (k : IntKind) (n m : Int) (w : World) :
    (binOp .eql t (.int k n) (.int k m)).run P w = .ok (.bool (n==m)) w/\(binOp .neq t (.int k n) (.int k m)).run P w = .ok (.bool (!(n==m))) w /\
    (binOp .lss t (.int k n) (.int k m)).run P w = .ok (.bool (decide (n<m))) w/\(binOp .leq t (.int k n) (.int k m)).run P w = .ok (.bool (decide (n<=m))) w /\
    (binOp .gtr t (.int k n) (.int k m)).run P w = .ok (.bool (decide (m<n))) w/\(binOp .geq t (.int k n) (.int k m)).run P w = .ok (.bool (decide (m<=n))) w:=by
 simp[binOp,Op.intCmp,bne]
def uY (t : TypeId) (s u : List UInt8) (w : World) :
    (binOp .eql t (.string ⟨s.toArray⟩) (.string ⟨u.toArray⟩)).run P w = .ok (.bool (s==u)) w/\(binOp .neq t (.string ⟨s.toArray⟩) (.string ⟨u.toArray⟩)).run P w = .ok (.bool (!(s==u))) w /\
    (binOp .lss t (.string ⟨s.toArray⟩) (.string ⟨u.toArray⟩)).run P w = .ok (.bool (Op.bytesLess s u)) w/\(binOp .leq t (.string ⟨s.toArray⟩) (.string ⟨u.toArray⟩)).run P w = .ok (.bool (Op.bytesLess s u || s==u)) w /\
    (binOp .gtr t (.string ⟨s.toArray⟩) (.string ⟨u.toArray⟩)).run P w = .ok (.bool (!(Op.bytesLess s u || s==u))) w/\(binOp .geq t (.string ⟨s.toArray⟩) (.string ⟨u.toArray⟩)).run P w = .ok (.bool (!Op.bytesLess s u)) w:=by
 simp[binOp,Op.stringOp,LR]
def Xw (t : TypeId) (s u : List UInt8) (w : World) (h : ((s.length + u.length : Nat) : Int) <= IntKind.i64.max) :
    (binOp .add t (.string ⟨s.toArray⟩) (.string ⟨u.toArray⟩)).run P w = .ok (.string ⟨(s++u).toArray⟩) w:=by
 have h1:¬ (((⟨s.toArray⟩:ByteArray).size+(⟨u.toArray⟩:ByteArray).size:Nat):Int)>IntKind.i64.max:=by
  simp only[ByteArray.size,List.size_toArray];omega
 simp only[binOp,Op.stringOp,if_neg h1,Sem.run_pure]
 congr 2
def SC {op : BinOp} {t : TypeId} {x y : AV} {a b : Value} (hR : Rel g w σ) (hx : VR g w x a) (hy : VR g w y b)
    (hK:jn op x y fun v=>K v σ):bQ P (binOp op t a b) g w σ K:=by
 cases hx<;>cases hy<;>(try (cases op<;>exact hK.elim))
 case int.int k n k' m =>
  cases op<;>simp only[jn]at hK
  case shl=>exact bQ.pure hR (JC t k k' n m w hK.1).1 (.int _ _) hK.2
  case shr=>exact bQ.pure hR (JC t k k' n m w hK.1).2 (.int _ _) hK.2
  all_goals obtain⟨rfl,hK⟩:=hK
  case add=>exact bQ.pure hR (A4 t k n m w).1 (.int _ _) hK
  case sub=>exact bQ.pure hR (A4 t k n m w).2.1 (.int _ _) hK
  case mul=>exact bQ.pure hR (A4 t k n m w).2.2 (.int _ _) hK
  case quo=>exact bQ.pure hR (Py t k n m w hK.1).1 (.int _ _) hK.2
  case rem=>exact bQ.pure hR (Py t k n m w hK.1).2 (.int _ _) hK.2
  case and=>exact bQ.pure hR (yV t k n m w).1 (.int _ _) hK
  case or=>exact bQ.pure hR (yV t k n m w).2.1 (.int _ _) hK
  case xor=>exact bQ.pure hR (yV t k n m w).2.2.1 (.int _ _) hK
  case andNot=>exact bQ.pure hR (yV t k n m w).2.2.2 (.int _ _) hK
  case eql=>exact bQ.pure hR (uX t k n m w).1 (.bool _) hK
  case neq=>exact bQ.pure hR (uX t k n m w).2.1 (.bool _) hK
  case lss=>exact bQ.pure hR (uX t k n m w).2.2.1 (.bool _) hK
  case leq=>exact bQ.pure hR (uX t k n m w).2.2.2.1 (.bool _) hK
  case gtr=>exact bQ.pure hR (uX t k n m w).2.2.2.2.1 (.bool _) hK
  case geq=>exact bQ.pure hR (uX t k n m w).2.2.2.2.2 (.bool _) hK
 case str.str s u =>
  cases op<;>simp only[jn]at hK
  case add=>exact bQ.pure hR (Xw t s u w hK.1) (.str _) hK.2
  case eql=>exact bQ.pure hR (uY t s u w).1 (.bool _) hK
  case neq=>exact bQ.pure hR (uY t s u w).2.1 (.bool _) hK
  case lss=>exact bQ.pure hR (uY t s u w).2.2.1 (.bool _) hK
  case leq=>exact bQ.pure hR (uY t s u w).2.2.2.1 (.bool _) hK
  case gtr=>exact bQ.pure hR (uY t s u w).2.2.2.2.1 (.bool _) hK
  case geq=>exact bQ.pure hR (uY t s u w).2.2.2.2.2 (.bool _) hK
def U_{op:UnOp}{x:AV}{a:Value}(hR:Rel g w σ)(hx:VR g w x a)(hK:AP op x fun v=>K v σ): bQ P (Op.unary op a) g w σ K:=by
 cases hx<;>(try (cases op<;>exact hK.elim))
 case bool b =>
  cases op<;>simp only[AP]at hK
  case not=>exact bQ.pure hR (by simp[Op.unary]) (.bool _) hK
 case int k n =>
  cases op<;>simp only[AP]at hK
  case neg=>exact bQ.pure hR (by simp[Op.unary,Op.intArith];rfl) (.int k _) hK
  case xor=>exact bQ.pure hR (by simp[Op.unary,Op.intBits];rfl) (.int k _) hK
def QS {s d : TypeId} {k k' : IntKind} {x : AV} {a : Value} (hR : Rel g w σ) (h1 : P.underlying s = some (.int k')) (h2 : P.underlying d = some (.int k)) (hx : VR g w x a)
    (hK:match (generalizing:=false) x with | .int _ n=>K (.int k (eS k n)) σ | _=>False):bQ P (convert s d a) g w σ K:=by
 cases hx<;>simp only at hK
 case int k0 n=>exact bQ.pure hR (by simp[convert,a_ h1,a_ h2,Conv.intToInt];rfl) (.int k _) hK
def SD {s d : TypeId} {x : AV} {a : Value} (hR : Rel g w σ) (h1 : P.underlying s = some .string) (h2 : P.underlying d = some .string) (hx : VR g w x a) (hs : ∃ u, x = .str u)
    (hK:K x σ):bQ P (convert s d a) g w σ K:=by
 obtain⟨u,rfl⟩:=hs;cases hx;exact bQ.pure hR (by simp[convert,a_ h1,a_ h2]) (.str _) hK
def KD {x : AV} {a : Value} {i : Nat} (hR : Rel g w σ) (hx : VR g w x a) (hK : match (generalizing := false) x with | .bJ vs => i < vs.length /\ K (vs.getD i .undef) σ | _ => False) :
    bQ P (Instr.extract a i) g w σ K:=by
 cases hx<;>simp only at hK
 case bJ cs vs hl h =>
  obtain⟨h1,h2⟩:=hK;have h3:i<vs.size:=by omega
  exact bQ.pure hR (v:=vs.getD i Go.undef) (by simp[Instr.extract,h3]) (h i h1) h2
def QU {t : TypeId} {x y : AV} {a b : Value} (hR : Rel g w σ) (hu : P.underlying t = some .string) (hx : VR g w x a) (hy : VR g w y b)
    (hK:match (generalizing:=false) x,y with | .str s,.int _ k=>0<=k/\k<s.length/\K (.int .u8 (s.getD k.toNat 0).toNat) σ | _,_=>False):bQ P (Instr.index t a b) g w σ K:=by
 cases hx<;>cases hy<;>simp only at hK
 case str.int s k n =>
  obtain⟨h1,h2,h3⟩:=hK;have h4:n.toNat<s.length:=by omega
  have h5:(⟨s.toArray⟩:ByteArray)[n.toNat]? = some (s.getD n.toNat 0):=by
   have:n.toNat<(⟨s.toArray⟩:ByteArray).size:=by simpa[ByteArray.size]using h4
   rw[getElem?_pos (⟨s.toArray⟩:ByteArray) n.toNat this]
   congr 1
   simp[ByteArray.getElem_eq_getElem_data,h4]
  refine bQ.pure hR ?_ (.int .u8 _) h3;simp only[Instr.index,asIntOf,Sem.run_bind,Sem.run_pure,Result.andThen_ok,a_ hu,if_pos h1,h5]
end
end Go.AM
namespace Go.AM
section
variable {P:Program} {g:aM} {w:World} {σ : ae} {K:AV->ae->Prop}
def jy{t:TypeId}{el:El}(h:kK P t=some el): ∃ i,P.info? t=some i/\kD P t=some el.ag/\i.size=el.sz/\(el.ag=false->el.sz=1)/\i.bytes<=24*(el.sz+1)/\el.sz<=1000/\ ∃ z,i.zero=some z/\z.cells.size=el.sz:=by
 unfold kK at h;split at h
 ·rename_i ag i h1 h2;split at h
  ·rename_i h3;cases h;simp only[aD,cz,beq_iff_eq,decide_eq_true_eq]at h3;obtain⟨⟨⟨h3,h4⟩,h5⟩,h6⟩:=h3;refine⟨i,h2,h1,rfl,fun(e:ag=false)=>by rw[e]at h3;simpa using h3,h4,h5,?_⟩;cases hz:i.zero with
   | none=>simp[hz]at h6
   | some z=>exact⟨z,rfl,by simpa[hz]using h6⟩
  ·cases h
 ·cases h
def LU {t : TypeId} {ag : Bool} {i : TypeInfo} {cs : List AV} {vs : Array Value} {off : Nat} (hA : kD P t = some ag) (hi : P.info? t = some i) (h1 : ag = false -> i.size = 1)
    (hl:cs.length=vs.size) (hs:cs.all AV.scalar=true) (h:∀ i,i<cs.length->VR g w (cs.getD i .undef) (vs.getD i Go.undef)) (ho:off+i.size<=cs.length) :
    ∃ v,(part t vs off).run P w = .ok v w/\VR g w (if ag then .agg ((cs.drop off).take i.size)else cs.getD off .undef) v:=by
 cases ag with
 | true =>
   refine⟨.agg (vs.extract off (off+i.size)),by simp[part,jt hA,dw hi],?_⟩;refine .agg _ _ (by simp;omega) (nD hs _ _) (fun j hj=>?_);have hj':j<i.size:=by simp at hj;omega
   rw[jb hj'];have:=h (off+j) (by omega);have h2:off+j<vs.size:=by omega
   have h3:j<(vs.extract off (off+i.size)).size:=by simp;omega
   have h4:(vs.extract off (off+i.size)).getD j Go.undef=vs.getD (off+j) Go.undef:=by
    rw[<-cN (h:=h3),<-cN (h:=h2),Array.getElem_extract]
   rw[h4];exact this
 | false =>
   have h2:off<vs.size:=by have:=h1 rfl;omega
   refine⟨vs.getD off Go.undef,by simp[part,jt hA,h2],?_⟩;simpa using h off (by omega)
def Oa {s : TypeId} {fs : Array Field} {f : Nat} {fi : Field} {ag : Bool} {i : TypeInfo} {x : AV} {a : Value} (hR : Rel g w σ) (hu : P.underlying s = some (.struct fs)) (hf : fs[f]? = some fi)
    (hA:kD P fi.type=some ag) (hi:P.info? fi.type=some i) (hx:VR g w x a)
    (hK:match (generalizing:=false) x with | .agg cs=>fi.offset+i.size<=cs.length/\(ag=false->i.size=1)/\K (if ag then .agg ((cs.drop fi.offset).take i.size)else cs.getD fi.offset .undef) σ | _=>False) :
    bQ P (Instr.field s a f) g w σ K:=by
 cases hx<;>simp only at hK
 case agg cs vs hl hs h =>
  obtain⟨h1,h2,h3⟩:=hK;obtain⟨v,r1,r2⟩:=LU hA hi h2 hl hs h h1;exact bQ.pure hR (by simp[Instr.field,a_ hu,hf,asAgg,r1]) r2 h3
def Ob {s : TypeId} {fs : Array Field} {f : Nat} {fi : Field} {i : TypeInfo} {x : AV} {a : Value} (hR : Rel g w σ) (hu : P.underlying s = some (.struct fs)) (hf : fs[f]? = some fi)
    (hi:P.info? fi.type=some i) (h0:i.size≠0) (hx:VR g w x a)
    (hK : match (generalizing := false) x with
      | .ref l o=>K (.ref l (o+fi.offset)) σ
      | .eA el y o=>K (.eA el y (o+fi.offset)) σ
      | .eG el l m j o=>K (.eG el l m j (o+fi.offset)) σ
      | _=>False):bQ P (Instr.fieldAt s a f) g w σ K:=by
 have run:∀ A:Addr,(Instr.fieldAt s (.pointer (some A)) f).run P w = .ok (.pointer (some (A.add fi.offset))) w:=fun A=>by
  simp[Instr.fieldAt,a_ hu,hf,Instr.sureAddr,fieldPlace,dw hi,h0]
 cases hx<;>simp only at hK
 case ref l o h =>
  obtain⟨h1,A,rfl,h2⟩:=h;refine bQ.pure hR (run A) (.ref _ _ _ ⟨h1,_,rfl,fun e=>?_⟩) hK;obtain⟨h3,h4⟩:=h2 e;rw[h4,add_plain];exact⟨by rw[h4]at h3;exact h3,rfl⟩
 case eA el y o b o' hi' ft hc h =>
  refine bQ.pure hR (run _) ?_ hK;rw[add_plain,c8];exact .eA el y _ b o' hi' ft hc h
 case eG el l m j o h =>
  obtain⟨h1,hm,A,rfl,h2⟩:=h;refine bQ.pure hR (run A) (.eG _ _ _ _ _ _ ⟨h1,hm,_,rfl,fun e=>?_⟩) hK;obtain⟨h3,h4⟩:=h2 e;rw[h4,add_plain,c8];exact⟨by rw[h4]at h3;exact h3,rfl⟩
def FR {t e : TypeId} {el : El} {A : Addr} {n cap : Nat} {k : IntKind} {i : Int} (hu : P.underlying t = some (.slice e)) (he : kK P e = some el) (h0 : 0 <= i) (h1 : i < n) :
    (Instr.indexAt t (.slice (some A) n cap) (.int k i)).run P w = .ok (.pointer (some (A.add (i.toNat*el.sz)))) w:=by
 obtain⟨fi,hi,_,hs,_⟩:=jy he;simp[Instr.indexAt,asIntOf,a_ hu,h0,h1,dw hi,hs]
def yW {t e : TypeId} {el : El} {A : Addr} {n : Nat} {k : IntKind} {i : Int} (hu : P.underlying t = some (.array n e)) (he : kK P e = some el) (h0 : 0 <= i) (h1 : i < n) :
    (Instr.indexAt t (.pointer (some A)) (.int k i)).run P w = .ok (.pointer (some (A.add (i.toNat*el.sz)))) w:=by
 obtain⟨fi,hi,_,hs,_⟩:=jy he;simp[Instr.indexAt,asIntOf,a_ hu,h0,h1,dw hi,hs,Instr.sureAddr]
def LV {t e : TypeId} {el : El} {x y : AV} {a b : Value} (hR : Rel g w σ) (hu : P.underlying t = some (.slice e)) (he : kK P e = some el) (hx : VR g w x a) (hy : VR g w y b)
    (hK : match (generalizing := false) y with
      | .int _ k => match (generalizing := false) x with
        | .aF _ bz xs=>bz=el/\0<=k/\k<xs.length/\K (.eA el (xs.getD k.toNat .undef) 0) σ
        | .own bz l m o n => bz = el /\ 0 <= k /\ k < n /\ match σ[l]? with
          | some (.cy _ cK xs)=>cK=el/\m=xs.length/\K (.eG el l m (o+k.toNat) 0) σ
          | _=>False
        | _=>False
      | _=>False):bQ P (Instr.indexAt t a b) g w σ K:=by
 cases hy<;>simp only at hK
 case int k i =>
  cases hx<;>simp only at hK
  case kg=>exact absurd (Int.lt_of_le_of_lt hK.2.1 hK.2.2.1) (by simp)
  case aF f bz xs b' off cap hi hf hx' ft hc h =>
   obtain⟨rfl,h0,h1,h2⟩:=hK;have h3:i.toNat<xs.length:=by omega
   refine bQ.pure hR (FR hu he h0 h1) ?_ h2;rw[add_plain];exact .eA bz _ 0 b' (off+i.toNat*bz.sz) hi (ft _ h3) (fun c kR=>by rw[c8];exact hc _ c h3 kR) (fun c kR=>by rw[c8];exact h _ c h3 kR)
  case own bz l m o n h =>
   obtain⟨rfl,h0,h1,h2⟩:=hK;obtain⟨q1,q2,A,cap,rfl,q3⟩:=h;split at h2
   ·rename_i cK xs hxs;obtain⟨rfl,rfl,h2⟩:=h2;obtain⟨o1,o2,o3⟩:=hR.ok l _ hxs;obtain⟨q4,q5,q6⟩:=q3 o1.symm;rcases o3 with⟨rfl,_,_⟩|⟨b,vs,b1,b2,b3,b4,b5⟩
    ·simp at q4;omega
    ·have q7:=q6 (by omega);rw[b1]at q7;simp only[cS]at q7;subst q7;refine bQ.pure hR (FR hu he h0 h1) (.eG _ _ _ _ _ _ ⟨q1,q2,_,rfl,fun e=>?_⟩) h2;rw[add_plain];exact⟨b1,by rw[cY,c8];rfl⟩
   ·exact h2.elim
def LW {t e : TypeId} {el : El} {n : Nat} {x y : AV} {a b : Value} (hR : Rel g w σ) (hu : P.underlying t = some (.array n e)) (he : kK P e = some el) (hx : VR g w x a) (hy : VR g w y b)
    (hK : match (generalizing := false) y with
      | .int _ k => match (generalizing := false) x with
        | .ref l o=>0<=k/\k<n/\K (.ref l (o+k.toNat*el.sz)) σ
        | .eA bz y o=>0<=k/\k<n/\K (.eA bz y (o+k.toNat*el.sz)) σ
        | .eG bz l m j o=>0<=k/\k<n/\K (.eG bz l m j (o+k.toNat*el.sz)) σ
        | _=>False
      | _=>False):bQ P (Instr.indexAt t a b) g w σ K:=by
 cases hy<;>simp only at hK
 case int k i =>
  cases hx<;>simp only at hK
  case ref l o h =>
   obtain⟨h0,h1,h2⟩:=hK;obtain⟨q1,A,rfl,q2⟩:=h;refine bQ.pure hR (yW hu he h0 h1) (.ref _ _ _ ⟨q1,_,rfl,fun e=>?_⟩) h2;obtain⟨h3,h4⟩:=q2 e;rw[h4,add_plain];exact⟨by rw[h4]at h3;exact h3,rfl⟩
  case eA bz x' o b' o' hi' ft hc h =>
   obtain⟨h0,h1,h2⟩:=hK;refine bQ.pure hR (yW hu he h0 h1) ?_ h2;rw[add_plain,c8];exact .eA bz _ _ b' o' hi' ft hc h
  case eG bz l m j o h =>
   obtain⟨h0,h1,h2⟩:=hK;obtain⟨q1,qm,A,rfl,q2⟩:=h;refine bQ.pure hR (yW hu he h0 h1) (.eG _ _ _ _ _ _ ⟨q1,qm,_,rfl,fun e=>?_⟩) h2;obtain⟨h3,h4⟩:=q2 e;rw[h4,add_plain,c8];exact⟨by rw[h4]at h3;exact h3,rfl⟩
def QV {t e : TypeId} {el : El} {n : Nat} {x y : AV} {a b : Value} (hR : Rel g w σ) (hu : P.underlying t = some (.array n e)) (he : kK P e = some el) (hx : VR g w x a) (hy : VR g w y b)
    (hK : match (generalizing := false) x, y with
      | .agg cs, .int _ k => 0 <= k /\ k < n /\ (k.toNat * el.sz + el.sz <= cs.length) /\ (el.ag = false -> el.sz = 1) /\
        K (if el.ag then .agg ((cs.drop (k.toNat*el.sz)).take el.sz)else cs.getD (k.toNat*el.sz) .undef) σ
      | _,_=>False):bQ P (Instr.index t a b) g w σ K:=by
 obtain⟨fi,hi,hA,hs,h1,_⟩:=jy he;cases hx<;>cases hy<;>simp only at hK
 case agg.int cs vs hl hsc h k i =>
  obtain⟨h0,h2,h3,_,h4⟩:=hK;obtain⟨v,r1,r2⟩:=LU (P:=P) (g:=g) (w:=w) (off:=i.toNat*el.sz) hA hi (fun e=>hs.trans (h1 e)) hl hsc h (by omega);rw[hs]at r2;exact bQ.pure hR (by simp[Instr.index,asIntOf,a_ hu,h0,h2,dw hi,hs,r1]) r2 h4
def wE{k:IntKind}{i:Int}{y:Nat}{code:BoundsCode}(h0:0<=i)(h1:i<=y): (Instr.sliceBound (.int k i) y code).run P w = .ok i.toNat w:=by
 simp[Instr.sliceBound,asIntOf,h0,h1]
def vv(g:aM)(w:World)(x:Option AV)(v:Option Value): Prop :=
 match x,v with
 | none,none=>True
 | some a,some u=>VR g w a u
 | _,_=>False
def SE {t : TypeId} {x : AV} {a : Value} {lo hi : Option AV} {vl vh : Option Value} (hR : Rel g w σ) (hu : P.underlying t = some .string) (hx : VR g w x a) (hl : vv g w lo vl) (hh : vv g w hi vh)
    (hK : match (generalizing := false) x with
      | .str s=>bound hi s.length s.length fun h=>bound lo 0 h fun l=>K (.str ((s.drop l).take (h-l))) σ
      | _=>False):bQ P (Instr.sliceAt t a vl vh none) g w σ K:=by
 cases hx<;>simp only at hK
 case str s =>
  have key:∀ (l h:Nat),l<=h->h<=s.length->(⟨s.toArray⟩:ByteArray).extract l h=⟨((s.drop l).take (h-l)).toArray⟩:=fun l h h1 h2=>by
   apply ByteArray.ext;simp[ByteArray.data_extract]
  have hs:(⟨s.toArray⟩:ByteArray).size=s.length:=by simp[ByteArray.size]
  obtain⟨h,hb,kb⟩:∃ h:Nat,h<=s.length/\(match vh with|some v=>Instr.sliceBound v s.length .sliceAlen|none=>Pure.pure s.length:Sem Nat).run P w = .ok h w/\bound lo 0 h fun l=>K (.str ((s.drop l).take (h-l))) σ:=by
   cases hi with
   | none => cases vh with
     | none=>exact⟨s.length,Nat.le_refl _,rfl,hK⟩
     | some v=>exact hh.elim
   | some u => cases vh with
     | none=>exact hh.elim
     | some v =>
       have SG:VR g w u v:=hh;cases SG<;>simp only[bound]at hK
       case int k i=>exact⟨i.toNat,by omega,wE hK.1 hK.2.1,hK.2.2⟩
  obtain⟨kb1,A5⟩:=kb
  obtain⟨l,lb,r1,r2⟩:∃ l:Nat,l<=h/\(match vl with|some v=>Instr.sliceBound v h .sliceB|none=>Pure.pure 0:Sem Nat).run P w = .ok l w/\K (.str ((s.drop l).take (h-l))) σ:=by
   cases lo with
   | none => cases vl with
     | none=>exact⟨0,bD _,rfl,A5⟩
     | some v=>exact hl.elim
   | some u => cases vl with
     | none=>exact hl.elim
     | some v =>
       have hl':VR g w u v:=hl;cases hl'<;>simp only[bound]at A5
       case int k i=>exact⟨i.toNat,by omega,wE A5.1 A5.2.1,A5.2.2⟩
  refine bQ.pure hR (v:= .string ⟨((s.drop l).take (h-l)).toArray⟩) ?_ (.str _) r2;rw[<-key l h lb hb];cases vh<;>cases vl<;>simp_all[Instr.sliceAt,a_ hu,Instr.slice,Instr.sliceBounds]
end
end Go.AM
namespace Go.AM
section
variable {P:Program} {g:aM} {w:World} {σ : ae} {K:AV->ae->Prop}
def uy {lo hi : Option AV} {vl vh : Option Value} {len cap : Nat} {K : Nat -> Nat -> Prop} (hl : vv g w lo vl) (hh : vv g w hi vh) (hlc : len <= cap)
    (hK:bound hi len len fun h=>bound lo 0 h fun l=>K l h) :
    ∃ l h:Nat,l<=h/\h<=len/\(Instr.sliceBounds true len cap vl vh none).run P w = .ok (l,h,cap) w/\K l h:=by
 obtain⟨h,hb,kb1,A5⟩:∃ h:Nat,h<=len/\(match vh with|some v=>Instr.sliceBound v cap .sliceAcap|none=>Pure.pure len:Sem Nat).run P w = .ok h w/\bound lo 0 h fun l=>K l h:=by
  cases hi with
  | none => cases vh with
    | none=>exact⟨len,Nat.le_refl _,rfl,hK⟩
    | some v=>exact hh.elim
  | some u => cases vh with
    | none=>exact hh.elim
    | some v =>
      have SG:VR g w u v:=hh;cases SG<;>simp only[bound]at hK
      case int k i=>exact⟨i.toNat,by omega,wE hK.1 (by omega),hK.2.2⟩
 obtain⟨l,lb,r1,r2⟩:∃ l:Nat,l<=h/\(match vl with|some v=>Instr.sliceBound v h .sliceB|none=>Pure.pure 0:Sem Nat).run P w = .ok l w/\K l h:=by
  cases lo with
  | none => cases vl with
    | none=>exact⟨0,bD _,rfl,A5⟩
    | some v=>exact hl.elim
  | some u => cases vl with
    | none=>exact hl.elim
    | some v =>
      have hl':VR g w u v:=hl;cases hl'<;>simp only[bound]at A5
      case int k i=>exact⟨i.toNat,by omega,wE A5.1 A5.2.1,A5.2.2⟩
 refine⟨l,h,lb,hb,?_,r2⟩;cases vh<;>cases vl<;>simp_all[Instr.sliceBounds]
def SH {t e : TypeId} {el : El} {x : AV} {a : Value} {lo hi : Option AV} {vl vh : Option Value} (hR : Rel g w σ) (hu : P.underlying t = some (.slice e)) (he : kK P e = some el)
    (hx:VR g w x a) (hl:vv g w lo vl) (hh:vv g w hi vh)
    (hK : match (generalizing := false) x with
      | .ai=>bound hi 0 0 fun h=>bound lo 0 h fun _=>K .ai σ
      | .aF _ bz xs=>bz=el/\bound hi xs.length xs.length fun h=>bound lo 0 h fun l=>K (.aF false el ((xs.drop l).take (h-l))) σ
      | .own bz l m o n => bz = el /\ match σ[l]? with
        | some (.cy _ cK xs)=>cK=el/\m=xs.length/\o+n<=m/\bound hi n n fun h=>bound lo 0 h fun k=>K (.own el l m (o+k) (h-k)) σ
        | _=>False
      | _=>False):bQ P (Instr.sliceAt t a vl vh none) g w σ K:=by
 obtain⟨fi,hi',_,hs,_⟩:=jy he
 have run:∀ (A:Option Addr) (len cap l h:Nat),(Instr.sliceBounds true len cap vl vh none).run P w = .ok (l,h,cap) w ->
  (Instr.sliceAt t (.slice A len cap) vl vh none).run P w = .ok (.slice (if cap=l then A else A.map (·.add (l*el.sz))) (h-l) (cap-l)) w:=fun A len cap l h hb=>by
  simp only[Instr.sliceAt,Sem.run_bind,a_ hu,Result.andThen_ok,Instr.slice,hb,dw hi',hs,Sem.run_pure]
 cases hx<;>simp only at hK
 case ai =>
  obtain⟨l,h,q1,q2,q3,q4⟩:=uy (P:=P) (cap:=0) hl hh (Nat.le_refl _) hK;have:h=0/\l=0:=by omega
  obtain⟨rfl,rfl⟩:=this;refine bQ.pure hR (run none 0 0 0 0 q3) ?_ q4;simpa using VR.ai
 case kg f bz b cap hf =>
  obtain⟨rfl,hK⟩:=hK;obtain⟨l,h,q1,q2,q3,q4⟩:=uy (P:=P) (cap:=cap) hl hh (bD _) hK;have:h=0/\l=0:=by simp at q2;omega
  obtain⟨rfl,rfl⟩:=this;refine bQ.pure hR (run b 0 cap 0 0 q3) ?_ q4;simpa using VR.kg false _ _ cap (by simp)
 case aF f bz xs b off cap YQ hf YR ft hc h =>
  obtain⟨rfl,hK⟩:=hK;obtain⟨l,h',q1,q2,q3,q4⟩:=uy (P:=P) (cap:=cap) hl hh YR hK;refine bQ.pure hR (run _ _ _ _ _ q3) ?_ q4;by_cases e:h'=l
  ·subst e;simpa using VR.kg false _ _ (cap-h') (by simp)
  ·have hlt:l<h':=by omega
   rw[if_neg (by omega)];simp only[cS,add_plain];have hlen:((xs.drop l).take (h'-l)).length=h'-l:=by simp;omega
   have qu:∀ i,i<h'-l->((xs.drop l).take (h'-l)).getD i .undef=xs.getD (l+i) .undef:=fun i hi=>jb hi;have hoff:∀ i c,off+l*bz.sz+(i*bz.sz+c)=off+((l+i)*bz.sz+c):=fun i c=>by rw[cY];omega
   have:=VR.aF (g:=g) (w:=w) false bz ((xs.drop l).take (h'-l)) b (off+l*bz.sz) (cap-l) YQ (by simp) (by rw[hlen];omega)
    (fun i hi=>by rw[hlen]at hi;rw[qu i hi];exact ft _ (by omega))
    (fun i c hi fN=>by rw[hlen]at hi;rw[hoff];exact hc _ c (by omega) fN)
    (fun i c hi fN=>by rw[hlen]at hi;rw[qu i hi,hoff];exact h _ c (by omega) fN)
   rwa[hlen]at this
 case own bz l m o n h =>
  obtain⟨rfl,hK⟩:=hK;obtain⟨q1,q2,A,cap,rfl,q3⟩:=h;split at hK
  ·rename_i cK xs hxs;obtain⟨rfl,rfl,mV,hK⟩:=hK;obtain⟨o1,o2,o3⟩:=hR.ok l _ hxs;obtain⟨q4,q5,q6⟩:=q3 o1.symm
   have hcap:xs.length<=g.cap l:=by
    rcases o3 with⟨rfl,_,_⟩|⟨b,vs,b1,b2,b3,b4,b5⟩
    ·exact bD _
    ·exact b4
   obtain⟨k,h',p1,p2,p3,p4⟩:=uy (P:=P) (cap:=cap) hl hh (by omega) hK;refine bQ.pure hR (run _ _ _ _ _ p3) (.own _ _ _ _ _ _ ⟨q1,q2,_,_,rfl,fun e=>⟨by omega,by omega,fun hlt=>?_⟩⟩) p4;rw[if_neg (by omega),q6 (by omega)];cases g.base l with
   | none=>rfl
   | some b=>simp[add_plain,cY,c8]
  ·exact hK.elim
def Oc {x : AV} {a : Value} {o : Oper} {y : Operand} {ac : Act} (ho : o.op = .nilCheck y) (ha : ac.eval y = a) (hR : Rel g w σ) (hx : VR g w x a)
    (hK : match (generalizing := false) x with
      | .ref .. | .eA .. | .eG .. | .j6 .. | .fn (.func _) _ _ | .si _=>K x σ
      | _=>False) :
    ∃ v w' g' av σ',(execOp ac.eval o).run P w = .ok (.value v) w'/\Rel g' w' σ'/\ik σ g w σ' g' w'/\VR g' w' av v/\K av σ':=by
 have fin:(execOp ac.eval o).run P w = .ok (.value a) w->K x σ-> ∃ v w' g' av σ',(execOp ac.eval o).run P w = .ok (.value v) w'/\Rel g' w' σ'/\ik σ g w σ' g' w'/\VR g' w' av v/\K av σ' :=
  fun h hk=>⟨a,w,g,x,σ,h,hR,.refl _ _ _,hx,hk⟩
 cases x<;>(try exact False.elim hK)
 case ref l off =>
  refine fin ?_ hK;cases hx with|ref _ _ _ h=>obtain⟨_,A,rfl,_⟩:=h;simp[execOp,ho,ha]
 case eA el x off =>
  refine fin ?_ hK;cases hx;simp[execOp,ho,ha]
 case eG el l m i off =>
  refine fin ?_ hK;cases hx with|eG _ _ _ _ _ _ h=>obtain⟨_,_,A,rfl,_⟩:=h;simp[execOp,ho,ha]
 case j6 t v =>
  refine fin ?_ hK;cases hx;simp[execOp,ho,ha]
 case si l =>
  refine fin ?_ hK;cases hx with|si _ _ h=>obtain⟨_,A,rfl,_⟩:=h;simp[execOp,ho,ha]
 case fn f first cap =>
  cases f<;>(try exact False.elim hK)
  case func n =>
   refine fin ?_ hK;cases hx;simp[execOp,ho,ha]
def Od {t : TypeId} {d : TypeDesc} {x : AV} {a : Value} (hR : Rel g w σ) (hu : P.underlying t = some d) (hd : ∀ ms, d ≠ .interface ms) (hx : VR g w x a) (hK : K (.j6 t x) σ) :
    bQ P (Instr.makeInterface t a) g w σ K:=by
 refine bQ.pure hR ?_ (.j6 t x a hx) hK;cases d<;>first|(simp[Instr.makeInterface,a_ hu];done)|exact absurd rfl (hd _)
def QW {ats : Array TypeId} {t : TypeId} {r : TypeId} {x : AV} {a : Value} (hR : Rel g w σ) (ht : ats[0]? = some t) (hu : P.underlying t = some .string) (hx : VR g w x a)
    (hK : match (generalizing := false) x with
      | .str s=>K (.int .i64 s.length) σ
      | _=>False):bQ P (Builtin.len_ ats r #[a]) g w σ K:=by
 cases hx<;>simp only at hK
 case str s=>exact bQ.pure hR (v:= .int .i64 s.length) (by
  have hs:(⟨s.toArray⟩:ByteArray).size=s.length:=List.size_toArray;unfold Builtin.len_;simp[ht,a_ hu,goInt,hs]) (.int _ _) hK
def QX {ats : Array TypeId} {t e : TypeId} {r : TypeId} {x : AV} {a : Value} (hR : Rel g w σ) (ht : ats[0]? = some t) (hu : P.underlying t = some (.slice e)) (hx : VR g w x a)
    (hK : match (generalizing := false) x with
      | .ai=>K (.int .i64 0) σ
      | .aF _ _ xs=>K (.int .i64 xs.length) σ
      | .own _ _ _ _ n=>K (.int .i64 n) σ
      | _=>False):bQ P (Builtin.len_ ats r #[a]) g w σ K:=by
 have hsl:∀ A n c,a = .slice A n c->K (.int .i64 n) σ->bQ P (Builtin.len_ ats r #[a]) g w σ K:=fun A n c ha hk=>by
  subst ha;exact bQ.pure hR (v:= .int .i64 n) (by unfold Builtin.len_;simp[ht,a_ hu,goInt]) (.int _ _) hk
 cases hx<;>simp only at hK
 case ai=>exact hsl _ _ _ rfl hK
 case kg=>exact hsl _ _ _ rfl hK
 case aF=>exact hsl _ _ _ rfl hK
 case own h=>obtain⟨_,_,A,cap,rfl,_⟩:=h;exact hsl _ _ _ rfl hK
def LX (op : Bool) : ∀ (xs : List AV) (vs : List Value) (x : AV) (v : Value), VR g w x v -> xs.length = vs.length -> (∀ i, i < xs.length -> VR g w (xs.getD i .undef) (vs.getD i Go.undef)) ->
    qf op x xs (fun v=>K v σ)-> ∃ av u,(vs.foldlM (if op then Builtin.min2 else Builtin.max2) v).run P w = .ok u w/\VR g w av u/\K av σ:=by
 intro xs
 induction xs with
 | nil =>
   intro vs x v hx hl _ hK;cases vs with
   | nil=>exact⟨x,v,rfl,hx,hK⟩
   | cons _ _=>cases hl
 | cons y ys ih =>
   intro vs x v hx hl h hK;cases vs with
   | nil=>cases hl
   | cons u us =>
     have hy:VR g w y u:=by simpa using h 0 (by simp)
     simp only[qf]at hK;cases hx<;>simp only[AS]at hK;cases hy<;>simp only at hK;rename_i k a k' b
     obtain⟨av,u',r1,r2,r3⟩:=ih us _ (.int k (if op then(if b<a then b else a)else (if b>a then b else a))) (.int _ _) (by simpa using hl)
      (fun i hi=>by simpa using h (i+1) (by simpa using hi)) hK
     refine⟨av,u',?_,r2,r3⟩;cases op<;>simpa[List.foldlM_cons,Builtin.min2,Builtin.max2]using r1
def SI {ats : Array TypeId} {r : TypeId} {x : AV} {xs : List AV} {v : Value} {vs : List Value} (hR : Rel g w σ) (hx : VR g w x v) (hl : xs.length = vs.length)
    (h:∀ i,i<xs.length->VR g w (xs.getD i .undef) (vs.getD i Go.undef)) (hK:qf true x xs fun v=>K v σ):bQ P (Builtin.min_ ats r (v::vs).toArray) g w σ K:=by
 obtain⟨av,u,r1,r2,r3⟩:=LX (P:=P) true xs vs x v hx hl h hK;exact bQ.pure hR (by simpa[Builtin.min_]using r1) r2 r3
def SJ {ats : Array TypeId} {r : TypeId} {x : AV} {xs : List AV} {v : Value} {vs : List Value} (hR : Rel g w σ) (hx : VR g w x v) (hl : xs.length = vs.length)
    (h:∀ i,i<xs.length->VR g w (xs.getD i .undef) (vs.getD i Go.undef)) (hK:qf false x xs fun v=>K v σ):bQ P (Builtin.max_ ats r (v::vs).toArray) g w σ K:=by
 obtain⟨av,u,r1,r2,r3⟩:=LX (P:=P) false xs vs x v hx hl h hK;exact bQ.pure hR (by simpa[Builtin.max_]using r1) r2 r3
end
end Go.AM
namespace Go.AM
section
variable {P:Program} {g:aM} {w:World} {σ : ae} {K:AV->ae->Prop}
def JD {k : Kd} {a b : AV} {r : Bool} (h : LJ k a b = some r) {v u : Value} (hv : VR g w a v) (hu : VR g w b u) :
    (k = .b/\ ∃ x y,v = .bool x/\u = .bool y/\r=(x==y))\/(k = .i/\ ∃ q x y,v = .int q x/\u = .int q y/\r=(x==y)) \/
    (k = .s/\ ∃ x y:List UInt8,v = .string ⟨x.toArray⟩/\u = .string ⟨y.toArray⟩/\r=(x==y)):=by
 cases k<;>cases hv<;>cases hu<;>simp only[LJ]at h<;>(try cases h)
 case b.bool.bool.refl x y=>exact .inl ⟨rfl,x,y,rfl,rfl,rfl⟩
 case i.int.int q x q' y =>
  split at h
  ·rename_i e;subst e;cases h;exact .inr (.inl ⟨rfl,q,x,y,rfl,rfl,rfl⟩)
  ·cases h
 case s.str.str.refl x y=>exact .inr (.inr ⟨rfl,x,y,rfl,rfl,rfl⟩)
def A6 {k1 k2 : List Kd} {az bs : List AV} {r : Bool} (h : h_ (k1 ++ k2) az bs = some r) :
    ∃ r1 r2,h_ k1 (az.take k1.length) (bs.take k1.length)=some r1/\h_ k2 (az.drop k1.length) (bs.drop k1.length)=some r2/\r=(r1 && r2):=by
 induction k1 generalizing az bs r with
 | nil=>exact⟨true,r,by simp[h_],by simpa using h,by simp⟩
 | cons k ks ih =>
   cases az with
   | nil=>cases bs<;>simp[h_]at h
   | cons a az =>
     cases bs with
     | nil=>simp[h_]at h
     | cons b bs =>
       simp only[cF,h_]at h;split at h
       ·rename_i x y h1 h2;cases h;obtain⟨r1,r2,i1,i2,rfl⟩:=ih h2;exact⟨x && r1,r2,by simp[h_,h1,i1],by simpa using i2,by simp[Bool.and_assoc]⟩
       ·cases h
def Va {k : Kd} {a b : AV} {r : Bool} {t : TypeId} {d : TypeDesc} (hu : P.underlying t = some d) (hd : (d = .bool /\ k = .b) \/ ((∃ q, d = .int q) /\ k = .i) \/ (d = .string /\ k = .s)) {v u : Value}
    (h:h_ [k] [a] [b]=some r) (hv:VR g w a v) (hv':VR g w b u) (D:Nat):(Op.equalIn (D+1) t v u).run P w = .ok r w:=by
 simp only[h_]at h;split at h
 ·rename_i x y h1 h2;cases h2;cases h;rcases JD h1 hv hv' with⟨rfl,x',y',rfl,rfl,rfl⟩|⟨rfl,q,x',y',rfl,rfl,rfl⟩|⟨rfl,x',y',rfl,rfl,rfl⟩
  ·rcases hd with⟨rfl,_⟩|⟨_,e⟩|⟨_,e⟩
   ·simp[run_equalIn_bool' w D t x' y' hu]
   ·cases e
   ·cases e
  ·rcases hd with⟨_,e⟩|⟨⟨q',rfl⟩,_⟩|⟨_,e⟩
   ·cases e
   ·simp[run_equalIn_int w D t q q' x' y' hu]
   ·cases e
  ·rcases hd with⟨_,e⟩|⟨_,e⟩|⟨rfl,_⟩
   ·cases e
   ·cases e
   ·simp[run_equalIn_string w D t _ _ hu,LR]
 ·cases h
def Vb : ∀ (d : Nat) (t : TypeId) (ks : List Kd) (D : Nat) (xs ys : Array Value) (o : Nat) (az bs : List AV) (r : Bool), mU P d t = some ks -> d <= D ->
    (∃ i,P.info? t=some i/\i.size=ks.length)->az.length=ks.length->bs.length=ks.length->o+ks.length<=xs.size->o+ks.length<=ys.size ->
    (∀ i,i<ks.length->VR g w (az.getD i .undef) (xs.getD (o+i) Go.undef))->(∀ i,i<ks.length->VR g w (bs.getD i .undef) (ys.getD (o+i) Go.undef))->h_ ks az bs=some r ->
    ∃ v u,(part t xs o).run P w = .ok v w/\(part t ys o).run P w = .ok u w/\(Op.equalIn D t v u).run P w = .ok r w:=by
 intro d
 induction d with
 | zero=>intro t ks D xs ys o az bs r h;cases h
 | succ d ih =>
   intro t ks D xs ys o az bs r h hD hinfo la lb hx hy ha hb hk;obtain⟨ti,n5,hsz⟩:=hinfo;obtain⟨D,rfl⟩:∃ D',D=D'+1:=⟨D-1,by omega⟩
   have Vc:∀ (k:Kd) (dd:TypeDesc),P.underlying t=some dd->kD P t=some false->ks=[k]->((dd = .bool/\k = .b)\/((∃ q,dd = .int q)/\k = .i)\/(dd = .string/\k = .s)) ->
    ∃ v u,(part t xs o).run P w = .ok v w/\(part t ys o).run P w = .ok u w/\(Op.equalIn (D+1) t v u).run P w = .ok r w:=by
    intro k dd hu hA hks hd;subst hks;simp only[List.length_singleton]at *
    match az,bs,la,lb with
    | [a], [b], _, _ =>
      have h1:o<xs.size:=by omega
      have h2:o<ys.size:=by omega
      refine⟨xs.getD o Go.undef,ys.getD o Go.undef,by simp[part,jt hA,h1],by simp[part,jt hA,h2],?_⟩;exact Va hu hd hk (by simpa using ha 0 (by omega)) (by simpa using hb 0 (by omega)) D
   simp only[mU]at h;split at h
   ·rename_i hu;cases h;exact Vc .b _ hu (by simp[kD,hu]) rfl (.inl ⟨rfl,rfl⟩)
   ·rename_i q hu;cases h;exact Vc .i _ hu (by simp[kD,hu]) rfl (.inr (.inl ⟨⟨q,rfl⟩,rfl⟩))
   ·rename_i hu;cases h;exact Vc .s _ hu (by simp[kD,hu]) rfl (.inr (.inr ⟨rfl,rfl⟩))
   ·rename_i fs hu;split at h
    ·cases h
    ·rename_i hst;have hA:kD P t=some true:=by simp[kD,hu]
     refine⟨.agg (xs.extract o (o+ti.size)),.agg (ys.extract o (o+ti.size)),by simp[part,jt hA,dw n5],by simp[part,jt hA,dw n5],?_⟩;have hfo:P.fieldsOf t=fs:=by simp[Program.fieldsOf,hu]
     rw[run_equalIn_struct w D t _ _ (by rw[hfo];exact hu) (by simpa using hst),hfo]
     have key:∀ (l:List Field) (off:Nat) (ks:List Kd) (az bs:List AV) (r:Bool) (X Y:Array Value),tg P (mU P d) off l=some ks->az.length=ks.length->bs.length=ks.length ->
      off+ks.length<=X.size->off+ks.length<=Y.size->(∀ i,i<ks.length->VR g w (az.getD i .undef) (X.getD (off+i) Go.undef))->(∀ i,i<ks.length->VR g w (bs.getD i .undef) (Y.getD (off+i) Go.undef)) ->
      h_ ks az bs=some r->(Op.eqFields D X Y l).run P w = .ok r w:=by
      intro l
      induction l with
      | nil =>
        intro off ks az bs r X Y h la lb _ _ _ _ hk;cases h;cases az<;>cases bs<;>simp[h_]at hk;subst hk;rfl
      | cons f fs ihl =>
        intro off ks az bs r X Y h la lb hx hy ha hb hk;simp only[tg]at h;split at h
        ·cases h
        ·rename_i hne;simp only[cz,beq_iff_eq,bne_iff_ne,not_or,Decidable.not_not]at hne;obtain⟨hn,rfl⟩:=hne;split at h
         ·rename_i k1 fi SK WG;split at h
          ·rename_i hs1;simp only[aW]at h;obtain⟨k2,i_,rfl⟩:=h;simp only[aC]at *;obtain⟨r1,r2,e1,e2,rfl⟩:=A6 hk
           obtain⟨v,u,p1,p2,p3⟩:=ih f.type k1 D X Y f.offset (az.take k1.length) (bs.take k1.length) r1 SK (by omega) ⟨fi,WG,by simpa using hs1⟩ (by simp;omega) (by simp;omega) (by omega) (by omega)
            (fun i hi=>by have:=ha i (by omega);simpa[List.getElem?_take,hi]using this) (fun i hi=>by have:=hb i (by omega);simpa[List.getElem?_take,hi]using this) e1
           have SL:=ihl (f.offset+k1.length) k2 (az.drop k1.length) (bs.drop k1.length) r2 X Y i_ (by simp;omega) (by simp;omega) (by omega) (by omega)
            (fun i hi=>by have:=ha (k1.length+i) (by omega);simpa[c8]using this) (fun i hi=>by have:=hb (k1.length+i) (by omega);simpa[c8]using this) e2
           simp only [Op.eqFields, if_pos (show f.name ≠ "_" from hn), Sem.run_bind, p1, p2, p3, Result.andThen_ok]
           cases r1
           ·simp
           ·simpa using SL
          ·cases h
         ·cases h
     refine key fs.toList 0 ks az bs r _ _ h la lb (by simp;omega) (by simp;omega) (fun i hi=>?_) (fun i hi=>?_) hk
     ·have h3:i<(xs.extract o (o+ti.size)).size:=by simp;omega
      have h4:o+i<xs.size:=by omega
      have:=ha i hi;rw[<-cN (h:=h4)]at this;rw[cj,<-cN (h:=h3),Array.getElem_extract];exact this
     ·have h3:i<(ys.extract o (o+ti.size)).size:=by simp;omega
      have h4:o+i<ys.size:=by omega
      have:=hb i hi;rw[<-cN (h:=h4)]at this;rw[cj,<-cN (h:=h3),Array.getElem_extract];exact this
   ·rename_i n e hu;split at h
    ·rename_i k1 fi SK WG;split at h
     ·rename_i hs1;cases h;simp only[aD,beq_iff_eq]at hs1;obtain⟨hs1,JE⟩:=hs1;have hA:kD P t=some true:=by simp[kD,hu]
      refine⟨.agg (xs.extract o (o+ti.size)),.agg (ys.extract o (o+ti.size)),by simp[part,jt hA,dw n5],by simp[part,jt hA,dw n5],?_⟩;rw[Go.run_equalIn_array w D _ _ hu WG,JE]
      have key:∀ (m j:Nat) (az bs:List AV) (r:Bool) (X Y:Array Value),az.length=m*k1.length->bs.length=m*k1.length ->
       (j+m)*k1.length<=X.size->(j+m)*k1.length<=Y.size->(∀ i,i<m*k1.length->VR g w (az.getD i .undef) (X.getD (j*k1.length+i) Go.undef))->(∀ i,i<m*k1.length->VR g w (bs.getD i .undef) (Y.getD (j*k1.length+i) Go.undef)) ->
       h_ (List.replicate m k1).flatten az bs=some r->(Go.Op.eqItems D e k1.length X Y (List.range' j m)).run P w = .ok r w:=by
       intro m
       induction m with
       | zero =>
         intro j az bs r X Y la lb _ _ _ _ hk;rw[Nat.zero_mul]at la lb;rw[hY la,hY lb]at hk;simp[h_]at hk;subst hk;rfl
       | succ m ihm =>
         intro j az bs r X Y la lb hx hy ha hb hk;rw[List.replicate_succ,List.flatten_cons]at hk;rw[cV]at la lb;have hjm:(j+(m+1))*k1.length=j*k1.length+m*k1.length+k1.length:=by rw[cY,cV];omega
         have z7:(j+1)*k1.length=j*k1.length+k1.length:=cV _ _;have z8:(j+1+m)*k1.length=j*k1.length+k1.length+m*k1.length:=by rw[cY,z7]
         rw[hjm]at hx hy;have hmm:(m+1)*k1.length=m*k1.length+k1.length:=cV _ _;rw[hmm]at ha hb;obtain⟨r1,r2,e1,e2,rfl⟩:=A6 hk
         obtain⟨v,u,p1,p2,p3⟩:=ih e k1 D X Y (j*k1.length) (az.take k1.length) (bs.take k1.length) r1 SK (by omega) ⟨fi,WG,hs1⟩ (by simp;omega) (by simp;omega) (by omega) (by omega)
          (fun i hi=>by have:=ha i (by omega);simpa[List.getElem?_take,hi]using this) (fun i hi=>by have:=hb i (by omega);simpa[List.getElem?_take,hi]using this) e1
         have SL:=ihm (j+1) (az.drop k1.length) (bs.drop k1.length) r2 X Y (by simp;omega) (by simp;omega) (by omega) (by omega)
          (fun i hi=>by have:=ha (k1.length+i) (by omega);rw[z7];simpa[c8]using this) (fun i hi=>by have:=hb (k1.length+i) (by omega);rw[z7];simpa[c8]using this) e2
         rw[List.range'_succ];simp only[Go.Op.eqItems,Sem.run_bind,p1,p2,p3,Result.andThen_ok];cases r1
         ·simp
         ·simpa using SL
      have hlen:(List.replicate n k1).flatten.length=n*k1.length:=by simp
      rw[hlen]at hsz la lb hx hy;rw[List.range_eq_range'];refine key n 0 az bs r _ _ la lb (by simp;omega) (by simp;omega) (fun i hi=>?_) (fun i hi=>?_) hk
      ·have h3:i<(xs.extract o (o+ti.size)).size:=by simp;omega
       have h4:o+i<xs.size:=by omega
       have:=ha i (by rw[hlen];exact hi);rw[<-cN (h:=h4)]at this;rw[Nat.zero_mul,cj,<-cN (h:=h3),Array.getElem_extract];exact this
      ·have h3:i<(ys.extract o (o+ti.size)).size:=by simp;omega
       have h4:o+i<ys.size:=by omega
       have:=hb i (by rw[hlen];exact hi);rw[<-cN (h:=h4)]at this;rw[Nat.zero_mul,cj,<-cN (h:=h3),Array.getElem_extract];exact this
     ·cases h
    ·cases h
   ·cases h
end
