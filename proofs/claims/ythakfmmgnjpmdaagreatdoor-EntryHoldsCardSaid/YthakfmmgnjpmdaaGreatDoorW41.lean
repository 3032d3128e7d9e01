/- Part. -/
import Derived.Test.YthakfmmgnjpmdaaGreatDoorW40
import Derived.Test.YthakfmmgnjpmdaaGreatDoorRows
import Derived.SevenTiedAt
import Derived.LaidLaws
import Derived.LaidHandle
import Derived.Lib.LaidTab
set_option linter.all false
set_option maxHeartbeats 4000000
namespace Go.AM
open Go.ChangeShapes Go.WideShapes
def nP(g:aE)(w:World)(az:List AV)(vs:List Value): Prop:=az.length=vs.length/\ ∀ i,i<az.length->VR g w (az.getD i .undef) (vs.getD i Go.undef)
def nP.nil(g:aE)(w:World): nP g w [] []:=⟨rfl,fun i hi=>by cases hi⟩
def nP.app{g:aE}{w:World}{a b:List AV}{x y:List Value}(h:nP g w a x)(k:nP g w b y): nP g w (a++b) (x++y):=by
 have h1:=h.1;refine⟨by simp[h.1,k.1],fun i hi=>?_⟩;rw[List.length_append]at hi;by_cases hl:i<a.length
 ·have:=h.2 i hl;rw[ai,ai]at this ⊢;rw[aJ hl,aJ (by omega)];exact this
 ·have:=k.2 (i-a.length) (by omega);rw[ai,ai]at this ⊢;rw[bp (by omega),bp (by omega),<-h1];exact this
def nP.one{g:aE}{w:World}{a:AV}{x:Value}(h:VR g w a x): nP g w [a] [x]:=⟨rfl,fun i hi=>by
 match i,hi with
 | 0,_=>exact h⟩
def nP.agg{g:aE}{w:World}{az:List AV}{vs:Array Value}(h:nP g w az vs.toList)(hs:az.all AV.scalar=true): VR g w (.agg az) (.agg vs):=by
 refine .agg az vs (by simpa using h.1) hs (fun i hi=>?_);have:=h.2 i hi;simpa[ai,dX]using this
section
variable {H:Type} {enc:TypeId × Value->H} {P:Program} {w:World}
def Reads(enc:TypeId × Value->H)(P:Program)(w:World)(N:Nat)(t:TypeId)(n:Nat){α : Type}(E : α->List AV)(G : α->Prop): Prop :=
 P.cellsOf t=n/\(∀ a,(E a).length=n)/\ ∀ fuel cs x,fuel<=N->DataW.trod enc P w 0 (fun _=>true) true fuel t cs=some x-> ∃ a,G a/\nP (aE.all w) w (E a) cs
def Reads.weak{N t n:Nat}{α : Type}{E : α->List AV}{G G' : α->Prop}(h:Reads enc P w N t n E G)(hg:∀ a,G a->G' a): Reads enc P w N t n E G' :=
 ⟨h.1,h.2.1,fun f cs x hf hx=>by obtain⟨a,h1,h2⟩:=h.2.2 f cs x hf hx;exact⟨a,hg a h1,h2⟩⟩
def Reads.map{N t n:Nat}{α β : Type}{E : α->List AV}{G : α->Prop}{E' : β->List AV}{G' : β->Prop}(h:Reads enc P w N t n E G)(f : α-> β)(hE:∀ a,E' (f a)=E a)(hl:∀ b,(E' b).length=n)(hg:∀ a,G a->G' (f a)): Reads enc P w N t n E' G' :=
 ⟨h.1,hl,fun fu cs x hf hx=>by obtain⟨a,h1,h2⟩:=h.2.2 fu cs x hf hx;exact⟨f a,hg a h1,by rw[hE];exact h2⟩⟩
def Reads.int{N t:Nat}(ht:P.underlying t=some (.int .i64))(hc:P.cellsOf t=1): Reads enc P w N t 1 (fun n:Int=>[.int .i64 n]) (fun n=> -9223372036854775808<=n/\n<=9223372036854775807) :=
 ⟨hc, fun _ => rfl, fun f cs x _ hx => by
   obtain⟨n,rfl,_,wf⟩:=DataW.trod_int ht hx;exact⟨n,by simpa[Lit.wf,IntKind.min,IntKind.max,IntKind.signed,IntKind.bits]using wf,nP.one (.int _ _)⟩⟩
def Reads.str{N t:Nat}(ht:P.underlying t=some .string)(hc:P.cellsOf t=1): Reads enc P w N t 1 (fun s:List UInt8=>[.str s]) (fun _=>True) :=
 ⟨hc, fun _ => rfl, fun f cs x _ hx => by
   obtain⟨s,rfl,_,_⟩:=DataW.trod_string ht hx;exact⟨s.data.toList,trivial,nP.one (VR.string s)⟩⟩
def Reads.bool{N t:Nat}(ht:P.underlying t=some .bool)(hc:P.cellsOf t=1): Reads enc P w N t 1 (fun b:Bool=>[.bool b]) (fun _=>True) :=
 ⟨hc, fun _ => rfl, fun f cs x _ hx => by
   obtain⟨b,rfl,_⟩:=DataW.trod_bool ht hx;exact⟨b,trivial,nP.one (.bool b)⟩⟩
def Reads.slice {N t e n : Nat} {α : Type} [Inhabited α] {E : α -> List AV} {G : α -> Prop} (el : El) (mk : α -> AV) (ht : P.underlying t = some (.slice e)) (hc : P.cellsOf t = 1) (h : Reads enc P w N e n E G) (Io : 0 < n) (hsz : el.sz = n)
    (hfit:∀ a,(mk a).fits el=true) (hcell:∀ a c,c<n->(mk a).cell c=(E a).getD c .undef):Reads enc P w (N+1) t 1 (fun l:List α=>[.aN false el (l.map mk)]) (fun l=> ∀ a ∈ l,G a):=by
 refine⟨hc,fun _=>rfl,fun fuel cs x hf hx=>?_⟩;rcases DataW.trod_slice ht hx with⟨rfl,rfl⟩|⟨a,len,cap,elems,rest,k,hk,rfl,_,_,hl,_,hlen,hel,_,_⟩
 ·exact⟨[],by simp,nP.one (.iL _ _ _ _ (fun h=>by cases h))⟩
 have each:∀ i,i<len-> ∃ q : α,G q/\ ∃ cs',w.cells? 0 (a.add (i*P.cellsOf e)) (P.cellsOf e)=some cs'/\nP (aE.all w) w (E q) cs':=fun i hi=>by
  have h1:=hel i hi;rw[aF (by omega)]at h1;obtain⟨cs',h2,h3⟩:=eR.1 h1;obtain⟨q,h4,h5⟩:=h.2.2 k cs' _ (by omega) h3;exact⟨q,h4,cs',h2,h5⟩
 obtain⟨q,hq⟩:=Deep.choose_lt each;refine⟨(List.range len).map q,fun x hx=>by obtain⟨i,hi,rfl⟩:=dW.1 hx;exact(hq i (cV.1 hi)).1,nP.one ?_⟩;have hn:=h.1;by_cases h0:len=0
 ·subst h0;exact .iL _ _ _ _ (fun h=>by cases h)
 have hcells:∀ i c,i<len->c<n-> ∃ v,w.cell? (a.add (i*n+c))=some v/\VR (aE.all w) w ((E (q i)).getD c .undef) v:=fun i c hi fY=>by
  obtain⟨_,cs',h2,h3⟩:=hq i hi;rw[hn]at h2;obtain⟨_,h4,h5⟩:=World.cells?_some h2;have h6:=h5 c fY;rw[Deep.add_add,aF (by omega)]at h6;have h7:=h3.2 c (by rw[h.2.1];exact fY);rw[ai (l:=cs'),aF (by omega)]at h7;exact⟨_,h6,h7⟩
 obtain⟨v0,kH,_⟩:=hcells 0 0 (by omega) (by omega)
 have JW:a.spot=none:=by
  have:=World.cell?_spot kH;simpa[Addr.add]using this
 obtain⟨b,off,sp⟩:=a;simp only at JW;subst JW
 have hlt:b<w.heap.size:=by
  rw[add_plain]at kH;simp only[World.cell?]at kH;split at kH
  ·rename_i x hx;exact(dH.1 hx).1
  ·cases kH
 have mj:∀ i,i<len->(((List.range len).map q).map mk).getD i .undef=mk (q i):=fun i hi=>by
  simp[ai,hi]
 have:=VR.aN (g:=aE.all w) (w:=w) false el (((List.range len).map q).map mk) b off cap hlt (fun h=>by cases h) (by simpa using hl)
  (fun i hi=>by rw[mj i (by simpa using hi)];exact hfit _)
  (fun i c hi fY => by
    obtain⟨v,hv,_⟩:=hcells i c (by simpa using hi) (by omega);rw[add_plain]at hv;rw[hsz,hv];rfl)
  (fun i c hi fY => by
    obtain⟨v,hv,hr⟩:=hcells i c (by simpa using hi) (by omega);rw[add_plain]at hv;rw[mj i (by simpa using hi),dY,hsz,hv,hcell _ _ (by omega)];exact hr)
 simpa using this
def xP(enc:TypeId × Value->H)(P:Program)(w:World)(N:Nat)(fs:List Field)(o:Nat){α : Type}(E : α->List AV)(G : α->Prop): Prop :=
 ∀ (cs : List Value) (fuel : Nat) (ys : List (DataW H × List MemPlace)), fuel <= N -> (∀ (i : Nat) (f : Field), fs[i]? = some f -> DataW.trod enc P w 0 (fun _ => true) true fuel f.type ((cs.drop f.offset).take (P.cellsOf f.type)) = ys[i]?) -> ys.length = fs.length ->
   ∃ a,G a/\nP (aE.all w) w (E a) ((cs.drop o).take (E a).length)
def xP.nil{N o:Nat}: xP enc P w N [] o (fun _:Unit=>[]) (fun _=>True):=fun cs fuel ys _ _ _=>⟨(),trivial,by simpa using nP.nil _ _⟩
def xP.cons {N o n : Nat} {f : Field} {fs : List Field} {α β : Type} {E : α -> List AV} {G : α -> Prop} {E' : β -> List AV} {G' : β -> Prop} (h : Reads enc P w N f.type n E G) (ho : f.offset = o) (hk : xP enc P w N fs (o + n) E' G') :
    xP enc P w N (f::fs) o (fun p : α × β=>E p.1++E' p.2) (fun p=>G p.1/\G' p.2):=by
 intro cs fuel ys hf hx hl;cases ys with
 | nil=>simp at hl
 | cons y ys =>
   have h0:=hx 0 f rfl;rw[ho,h.1]at h0;obtain⟨a,g1,v1⟩:=h.2.2 fuel _ _ hf (by simpa using h0);obtain⟨b,g2,v2⟩:=hk cs fuel ys hf (fun i f' uN=>by have:=hx (i+1) f' (by simpa using uN);simpa using this) (by simpa using hl);refine⟨(a,b),⟨g1,g2⟩,?_⟩;have:=v1.app v2;have hlen:=h.2.1 a
   have e:(cs.drop o).take n++(cs.drop (o+n)).take (E' b).length=(cs.drop o).take (E a++E' b).length:=by
    rw[List.length_append,hlen,List.take_add,List.drop_drop]
   rwa[e]at this
def Reads.struct{N t n:Nat}{fs:Array Field}{α : Type}{E : α->List AV}{G : α->Prop}(ht:P.underlying t=some (.struct fs))(hc:P.cellsOf t=n)(hE:∀ a,(E a).length=n)(h:xP enc P w N fs.toList 0 E G): Reads enc P w (N+1) t n E G:=by
 refine⟨hc,hE,fun fuel cs x hf hx=>?_⟩;obtain⟨xs,k,hk,_,hlen,hxl,WQ⟩:=DataW.trod_struct ht hx;obtain⟨a,g,v⟩:=h cs k xs (by omega) (fun i f hf=>WQ i f (by simpa using hf)) (by simpa using hxl);refine⟨a,g,?_⟩;rw[hE,gK,b_ (by omega)]at v;exact v
def Reads.deep{t n:Nat}{α : Type}{E : α->List AV}{G : α->Prop}(h:∀ N,Reads enc P w N t n E G){v:Value}{d:DataW H}{ps:List MemPlace}(hd:DataW.Trod enc P w 0 (fun _=>true) true t v d ps): ∃ a,G a/\nP (aE.all w) w (E a) v.cells.toList:=by
 obtain⟨f,hf⟩:=hd;exact(h f).2.2 f _ _ (Nat.le_refl _) hf
end
end Go.AM
namespace Go.Proofs.YthakfmmgnjpmdaaGreatDoor
open Go.AM
set_option maxRecDepth 8000
section
variable {H:Type} {enc:TypeId × Value->H} {w:World}
abbrev abS(n:Int): Prop:= -9223372036854775808<=n/\n<=9223372036854775807
abbrev RD(enc:TypeId × Value->H)(w:World)(N:Nat)(t:TypeId)(n:Nat){α : Type}(E : α->List AV)(G : α->Prop): Prop:=Reads enc Tryz.prog w N t n E G
def E9(N:Nat){t:TypeId}(ht:Tryz.prog.underlying t=some (.int .i64))(hc:Tryz.prog.cellsOf t=1): RD enc w N t 1 (fun n:Int=>[I n]) abS:=Reads.int ht hc
def JX(N:Nat): RD enc w N 9 1 (fun s:aO=>[.str s]) (fun _=>True):=Reads.str Tryz.underlying9 (by kernel_rfl)
def T3(N:Nat): RD enc w N 54 1 (fun n:Int=>[I n]) abS:=E9 N Tryz.underlying54 (by kernel_rfl)
def Zl(N:Nat): RD enc w N 3 1 (fun n:Int=>[I n]) abS:=E9 N Tryz.underlying3 (by kernel_rfl)
def aiY(v:aL): List AV:=[I v.kind,I v.n,.str v.s]
def rd_val(N:Nat): RD enc w (N+1) 56 3 aiY E8:=by
 have h:=Reads.struct (enc:=enc) (w:=w) (N:=N) (n:=3) Tryz.underlying56 (by kernel_rfl) (fun _=>rfl) (.cons (T3 N) rfl (.cons (Zl N) rfl (.cons (JX N) rfl .nil)));exact h.map (fun p=>⟨p.1,p.2.1,p.2.2.1⟩) (fun _=>rfl) (fun _=>rfl) (fun p h=>h.2.1)
def T4(N:Nat): RD enc w (N+2) 28 1 (fun l:List aL=>[aW l]) (fun l=> ∀ v ∈ l,E8 v) :=
 Reads.slice EV bX Tryz.underlying28 (by kernel_rfl) (rd_val N) (by decide) rfl (fun _=>rfl) (fun _ _ _=>rfl)
def aiZ(c:cN): List AV:=[.str c.name,I c.kind,aW c.order]
def afI(N:Nat): RD enc w (N+3) 87 3 aiZ (fun c=> ∀ v ∈ c.order,E8 v):=by
 have h:=Reads.struct (enc:=enc) (w:=w) (N:=N+2) (n:=3) Tryz.underlying87 (by kernel_rfl) (fun _=>rfl) (.cons (JX _) rfl (.cons (T3 _) rfl (.cons (T4 N) rfl .nil)));exact h.map (fun p=>⟨p.1,p.2.1,p.2.2.1⟩) (fun _=>rfl) (fun _=>rfl) (fun p h=>h.2.2.1)
def T5(N:Nat): RD enc w (N+4) 22 1 (fun l:List cN=>[bV l]) Wu :=
 Reads.slice EC ew Tryz.underlying22 (by kernel_rfl) (afI N) (by decide) rfl (fun _=>rfl) (fun _ _ _=>rfl)
def T6(N:Nat): RD enc w (N+1) 51 1 (fun l:List aO=>[lC l]) (fun _=>True):=by
 refine(Reads.slice E1 gW Tryz.underlying51 (by kernel_rfl) (JX N) (by decide) rfl (fun _=>rfl) ?_).weak (fun _ _=>trivial);intro s c hc;have h0:c=0:=by omega
 subst h0;rfl
def agQ(r:iq): List AV:=[lC r.cells,lC r.outs]
def adP(N:Nat): RD enc w (N+2) 53 2 agQ (fun _=>True):=by
 have h:=Reads.struct (enc:=enc) (w:=w) (N:=N+1) (n:=2) Tryz.underlying53 (by kernel_rfl) (fun _=>rfl) (.cons (T6 N) rfl (.cons (T6 N) rfl .nil));exact h.map (fun p=>⟨p.1,p.2.1⟩) (fun _=>rfl) (fun _=>rfl) (fun p h=>trivial)
def abT(N:Nat): RD enc w (N+3) 25 1 (fun l:List iq=>[fj l]) (fun _=>True) :=
 (Reads.slice ER ia Tryz.underlying25 (by kernel_rfl) (adP N) (by decide) rfl (fun _=>rfl) (fun _ _ _=>rfl)).weak (fun _ _=>trivial)
def abU(N:Nat): RD enc w (N+5) 27 6 ic DH:=by
 have h:=Reads.struct (enc:=enc) (w:=w) (N:=N+4) (n:=6) Tryz.underlying27 (by kernel_rfl) (fun _=>rfl) (.cons (JX _) rfl (.cons (T5 N) rfl (.cons (T5 N) rfl (.cons (E9 _ Tryz.underlying23 (by kernel_rfl)) rfl (.cons (E9 _ Tryz.underlying24 (by kernel_rfl)) rfl (.cons (abT (N+1)) rfl .nil))))));exact h.map (fun p=>⟨p.1,p.2.1,p.2.2.1,p.2.2.2.1,p.2.2.2.2.1,p.2.2.2.2.2.1⟩) (fun _=>rfl) (fun _=>rfl) (fun p h=>⟨h.2.1,h.2.2.1⟩)
def Zm{v:Value}{d:DataW H}{ps:List MemPlace}{base:Nat}(hval:Value.okWide Tryz.prog w .any base 27 v)(hd:DataW.Trod enc Tryz.prog w 0 (fun _=>true) true 27 v d ps): ∃ t:Table,DH t/\VR (aE.all w) w (dP t) v:=by
 obtain⟨cs,rfl,_⟩:=Go.WideShapes.okWide_struct Tryz.underlying27 hval
 obtain⟨t,h1,h2⟩:=Reads.deep (fun N=>by
  have:=abU (enc:=enc) (w:=w) N;exact⟨this.1,this.2.1,fun f cs x hf hx=>this.2.2 f cs x (by omega) hx⟩) hd
 exact⟨t,h1,nP.agg h2 rfl⟩
end
end Go.Proofs.YthakfmmgnjpmdaaGreatDoor
namespace Go.Proofs.YthakfmmgnjpmdaaGreatDoor
open Go.AM Go.ChangeShapes Go.WideShapes Go.ChangeAt Go.RowKit
set_option maxRecDepth 8000
section
variable {H:Type} {enc:TypeId × Value->H} {w:World}
def ad0{v:Value}{d:DataW H}{ps:List MemPlace}{base:Nat}(hval:Value.okWide Tryz.prog w .any base 28 v)(hd:DataW.Trod enc Tryz.prog w 0 (fun _=>true) true 28 v d ps): ∃ l:List aL,(∀ c ∈ l,E8 c)/\VR (aE.all w) w (aW l) v:=by
 obtain⟨a,len,cap,rfl⟩:=Go.WideShapes.okWide_slice Tryz.underlying28 hval
 obtain⟨t,h1,h2⟩:=Reads.deep (fun N=>by
  have:=T4 (enc:=enc) (w:=w) N;exact⟨this.1,this.2.1,fun f cs x hf hx=>this.2.2 f cs x (by omega) hx⟩) hd
 exact⟨t,h1,h2.2 0 (by simp)⟩
end
def adZ: Value:= .agg #[.string ByteArray.empty,.slice none 0 0,.slice none 0 0,.int .i64 0,.int .i64 0,.slice none 0 0]
end Go.Proofs.YthakfmmgnjpmdaaGreatDoor
namespace Go.AM
open Go.ChangeShapes Go.WideShapes
section
variable {H:Type} {enc:TypeId × Value->H} {P:Program} {w:World}
def WOk(P:Program)(t:TypeId)(d:DataW H): Prop:= ∀ x ∈ d.weights P t,x<=reachBytes
def NU{t e:TypeId}(ht:P.underlying t=some (.slice e))(es sp:List (DataW H)): (DataW.slice es sp).weights P t=(es.length+sp.length)*P.bytesOf e::(DataW.weightsAll P e es++DataW.weightsAll P e sp):=by
 rw[DataW.weights,ht]
def Sr{t:TypeId}{fs:Array Field}(ht:P.underlying t=some (.struct fs))(l:List (DataW H)): (DataW.agg l).weights P t=DataW.weightsEach P (fs.toList.map (·.type)) l:=by
 rw[DataW.weights,ht]
def Bi{e:TypeId}{d:DataW H}{x:Nat}: ∀ {l:List (DataW H)},d ∈ l->x ∈ d.weights P e->x ∈ DataW.weightsAll P e l
 | y :: r, h, hx => by
   rw[DataW.weightsAll];rcases List.mem_cons.1 h with rfl|h
   ·exact cW _ hx
   ·exact ek _ (Bi h hx)
def zz{t:TypeId}{d:DataW H}{x:Nat}: ∀ {ts:List TypeId} {l:List (DataW H)} {i:Nat},ts[i]? = some t->l[i]? = some d->x ∈ d.weights P t->x ∈ DataW.weightsEach P ts l
 | [],_,_,h,_,_=>by simp at h
 | _::_,[],_,_,h,_=>by simp at h
 | a :: r, y :: s, 0, h1, h2, hx => by
   simp only[eM,Option.some.injEq]at h1 h2;subst h1;subst h2;rw[DataW.weightsEach];exact cW _ hx
 | a :: r, y :: s, i + 1, h1, h2, hx => by
   rw[DataW.weightsEach];exact ek _ (zz (i:=i) (by simpa using h1) (by simpa using h2) hx)
def lf(enc:TypeId × Value->H)(P:Program)(w:World)(N:Nat)(t:TypeId)(n:Nat){α : Type}(E : α->List AV)(G : α->Prop): Prop :=
 P.cellsOf t=n/\(∀ a,(E a).length=n)/\ ∀ fuel cs x,fuel<=N->DataW.trod enc P w 0 (fun _=>true) true fuel t cs=some x->WOk P t x.1-> ∃ a,G a/\nP (aE.all w) w (E a) cs
def Reads.wide{N t n:Nat}{α : Type}{E : α->List AV}{G : α->Prop}(h:Reads enc P w N t n E G): lf enc P w N t n E G:=⟨h.1,h.2.1,fun f cs x hf hx _=>h.2.2 f cs x hf hx⟩
def lf.map{N t n:Nat}{α β : Type}{E : α->List AV}{G : α->Prop}{E' : β->List AV}{G' : β->Prop}(h:lf enc P w N t n E G)(f : α-> β)(hE:∀ a,E' (f a)=E a)(hl:∀ b,(E' b).length=n)(hg:∀ a,G a->G' (f a)): lf enc P w N t n E' G' :=
 ⟨h.1,hl,fun fu cs x hf hx hw=>by obtain⟨a,h1,h2⟩:=h.2.2 fu cs x hf hx hw;exact⟨f a,hg a h1,by rw[hE];exact h2⟩⟩
def lf.slice {N t e n : Nat} {α : Type} [Inhabited α] {E : α -> List AV} {G : α -> Prop} (el : El) (mk : α -> AV) (ht : P.underlying t = some (.slice e)) (hc : P.cellsOf t = 1) (h : lf enc P w N e n E G) (hb : 0 < P.bytesOf e) (Io : 0 < n) (hsz : el.sz = n)
    (hfit:∀ a,(mk a).fits el=true) (hcell:∀ a c,c<n->(mk a).cell c=(E a).getD c .undef):lf enc P w (N+1) t 1 (fun l:List α=>[.aN false el (l.map mk)]) (fun l=>l.length<=reachBytes/\ ∀ a ∈ l,G a):=by
 refine⟨hc,fun _=>rfl,fun fuel cs x hf hx uJ=>?_⟩;rcases DataW.trod_slice ht hx with⟨rfl,rfl⟩|⟨a,len,cap,elems,rest,k,hk,rfl,lU,_,hl,_,hlen,hel,_,_⟩
 ·exact⟨[],⟨Nat.zero_le _,by simp⟩,nP.one (.iL _ _ _ _ (fun h=>by cases h))⟩
 rw[lU]at uJ;have uJ:∀ x ∈ (DataW.slice (elems.map (·.1)) (rest.map (·.1))).weights P t,x<=reachBytes:=uJ;rw[NU ht]at uJ
 have Vl:len<=reachBytes:=by
  have h1:=uJ _ (List.mem_cons_self ..);simp only[List.length_map]at h1;have h2:elems.length+rest.length<=(elems.length+rest.length)*P.bytesOf e:=Nat.le_mul_of_pos_right _ hb;omega
 have each:∀ i,i<len-> ∃ q : α,G q/\ ∃ cs',w.cells? 0 (a.add (i*P.cellsOf e)) (P.cellsOf e)=some cs'/\nP (aE.all w) w (E q) cs':=fun i hi=>by
  have h1:=hel i hi;rw[aF (by omega)]at h1;obtain⟨cs',h2,h3⟩:=eR.1 h1;obtain⟨q,h4,h5⟩:=h.2.2 k cs' _ (by omega) h3 (fun x hx=>uJ x (bJ _ (cW _ (Bi (dW.2 ⟨_,dD _,rfl⟩) hx))));exact⟨q,h4,cs',h2,h5⟩
 obtain⟨q,hq⟩:=Deep.choose_lt each;refine⟨(List.range len).map q,⟨by simpa using Vl,fun x hx=>by obtain⟨i,hi,rfl⟩:=dW.1 hx;exact(hq i (cV.1 hi)).1⟩,nP.one ?_⟩;have hn:=h.1;by_cases h0:len=0
 ·subst h0;exact .iL _ _ _ _ (fun h=>by cases h)
 have hcells:∀ i c,i<len->c<n-> ∃ v,w.cell? (a.add (i*n+c))=some v/\VR (aE.all w) w ((E (q i)).getD c .undef) v:=fun i c hi fY=>by
  obtain⟨_,cs',h2,h3⟩:=hq i hi;rw[hn]at h2;obtain⟨_,h4,h5⟩:=World.cells?_some h2;have h6:=h5 c fY;rw[Deep.add_add,aF (by omega)]at h6;have h7:=h3.2 c (by rw[h.2.1];exact fY);rw[ai (l:=cs'),aF (by omega)]at h7;exact⟨_,h6,h7⟩
 obtain⟨v0,kH,_⟩:=hcells 0 0 (by omega) (by omega)
 have JW:a.spot=none:=by
  have:=World.cell?_spot kH;simpa[Addr.add]using this
 obtain⟨b,off,sp⟩:=a;simp only at JW;subst JW
 have hlt:b<w.heap.size:=by
  rw[add_plain]at kH;simp only[World.cell?]at kH;split at kH
  ·rename_i x hx;exact(dH.1 hx).1
  ·cases kH
 have mj:∀ i,i<len->(((List.range len).map q).map mk).getD i .undef=mk (q i):=fun i hi=>by
  simp[ai,hi]
 have:=VR.aN (g:=aE.all w) (w:=w) false el (((List.range len).map q).map mk) b off cap hlt (fun h=>by cases h) (by simpa using hl)
  (fun i hi=>by rw[mj i (by simpa using hi)];exact hfit _)
  (fun i c hi fY => by
    obtain⟨v,hv,_⟩:=hcells i c (by simpa using hi) (by omega);rw[add_plain]at hv;rw[hsz,hv];rfl)
  (fun i c hi fY => by
    obtain⟨v,hv,hr⟩:=hcells i c (by simpa using hi) (by omega);rw[add_plain]at hv;rw[mj i (by simpa using hi),dY,hsz,hv,hcell _ _ (by omega)];exact hr)
 simpa using this
def xQ(enc:TypeId × Value->H)(P:Program)(w:World)(N:Nat)(fs:List Field)(o:Nat){α : Type}(E : α->List AV)(G : α->Prop): Prop :=
 ∀ (cs : List Value) (fuel : Nat) (ys : List (DataW H × List MemPlace)), fuel <= N -> (∀ (i : Nat) (f : Field), fs[i]? = some f -> DataW.trod enc P w 0 (fun _ => true) true fuel f.type ((cs.drop f.offset).take (P.cellsOf f.type)) = ys[i]?) -> ys.length = fs.length -> (∀ (i : Nat) (f : Field) (y : DataW H × List MemPlace), fs[i]? = some f -> ys[i]? = some y -> WOk P f.type y.1) ->
   ∃ a,G a/\nP (aE.all w) w (E a) ((cs.drop o).take (E a).length)
def xQ.nil{N o:Nat}: xQ enc P w N [] o (fun _:Unit=>[]) (fun _=>True):=fun cs fuel ys _ _ _ _=>⟨(),trivial,by simpa using nP.nil _ _⟩
def xQ.cons {N o n : Nat} {f : Field} {fs : List Field} {α β : Type} {E : α -> List AV} {G : α -> Prop} {E' : β -> List AV} {G' : β -> Prop} (h : lf enc P w N f.type n E G) (ho : f.offset = o) (hk : xQ enc P w N fs (o + n) E' G') :
    xQ enc P w N (f::fs) o (fun p : α × β=>E p.1++E' p.2) (fun p=>G p.1/\G' p.2):=by
 intro cs fuel ys hf hx hl uJ;cases ys with
 | nil=>simp at hl
 | cons y ys =>
   have h0:=hx 0 f rfl;rw[ho,h.1]at h0;obtain⟨a,g1,v1⟩:=h.2.2 fuel _ _ hf (by simpa using h0) (uJ 0 f y rfl rfl);obtain⟨b,g2,v2⟩:=hk cs fuel ys hf (fun i f' uN=>by have:=hx (i+1) f' (by simpa using uN);simpa using this) (by simpa using hl) (fun i f' y' h1 h2=>uJ (i+1) f' y' (by simpa using h1) (by simpa using h2));refine⟨(a,b),⟨g1,g2⟩,?_⟩;have:=v1.app v2;have hlen:=h.2.1 a
   have e:(cs.drop o).take n++(cs.drop (o+n)).take (E' b).length=(cs.drop o).take (E a++E' b).length:=by
    rw[List.length_append,hlen,List.take_add,List.drop_drop]
   rwa[e]at this
def lf.struct{N t n:Nat}{fs:Array Field}{α : Type}{E : α->List AV}{G : α->Prop}(ht:P.underlying t=some (.struct fs))(hc:P.cellsOf t=n)(hE:∀ a,(E a).length=n)(h:xQ enc P w N fs.toList 0 E G): lf enc P w (N+1) t n E G:=by
 refine⟨hc,hE,fun fuel cs x hf hx uJ=>?_⟩;obtain⟨xs,k,hk,lU,hlen,hxl,WQ⟩:=DataW.trod_struct ht hx;obtain⟨a,g,v⟩:=h cs k xs (by omega) (fun i f hf=>WQ i f (by simpa using hf)) (by simpa using hxl) (fun i f y h1 h2 x hx=>uJ x (by rw[lU];show x ∈ (DataW.agg (xs.map (·.1))).weights P t;rw[Sr ht];exact zz (i:=i) (by rw[g_,h1];rfl) (by rw[g_,h2];rfl) hx));refine⟨a,g,?_⟩;rw[hE,gK,b_ (by omega)]at v;exact v
def lf.deep{t n:Nat}{α : Type}{E : α->List AV}{G : α->Prop}(h:∀ N,lf enc P w N t n E G){v:Value}{d:DataW H}{ps:List MemPlace}(hd:DataW.Trod enc P w 0 (fun _=>true) true t v d ps)(hw:(d.weights P t).all (·<=reachBytes)=true): ∃ a,G a/\nP (aE.all w) w (E a) v.cells.toList:=by
 obtain⟨f,hf⟩:=hd;exact(h f).2.2 f _ _ (Nat.le_refl _) hf (fun x hx=>by simpa using aV.1 hw x hx)
end
end Go.AM
namespace Go.Proofs.YthakfmmgnjpmdaaGreatDoor
open Go.AM Go.ChangeShapes Go.WideShapes Go.ChangeAt Go.RowKit
set_option maxRecDepth 8000
section
variable {H:Type} {enc:TypeId × Value->H} {w:World}
abbrev WD(enc:TypeId × Value->H)(w:World)(N:Nat)(t:TypeId)(n:Nat){α : Type}(E : α->List AV)(G : α->Prop): Prop:=lf enc Tryz.prog w N t n E G
def wid{α : Type}{N t n:Nat}{E : α->List AV}{G G' : α->Prop}(h:WD enc w N t n E G)(hg:∀ a,G a->G' a): WD enc w N t n E G':=h.map (fun a=>a) (fun _=>rfl) h.2.1 hg
abbrev big(n:Nat): Prop:=n<=2 ^ 60
def Q6{n:Nat}(h:n<=reachBytes): big n:=bW h (by decide)
def adQ(N:Nat): WD enc w (N+2) 28 1 (fun l:List aL=>[aW l]) (fun l=>big l.length) :=
 wid (lf.slice EV bX Tryz.underlying28 (by kernel_rfl) (rd_val N).wide (iC (by kernel_rfl)) (by decide) rfl (fun _=>rfl) (fun _ _ _=>rfl)) (fun _ h=>Q6 h.1)
def adR(N:Nat): WD enc w (N+1) 30 1 (fun l:List Int=>[dL l]) (fun l=>big l.length):=by
 refine wid (lf.slice E1 pY Tryz.underlying30 (by kernel_rfl) (Zl N).wide (iC (by kernel_rfl)) (by decide) rfl (fun _=>rfl) ?_) (fun _ h=>Q6 h.1);intro s c hc;have h0:c=0:=by omega
 subst h0;rfl
def adS(N:Nat): WD enc w (N+3) 31 1 (fun l:List (List aL)=>[dU l]) (fun l=>big l.length/\ ∀ r ∈ l,big r.length):=by
 refine wid (lf.slice E1 aW Tryz.underlying31 (by kernel_rfl) (adQ N) (iC (by kernel_rfl)) (by decide) rfl (fun _=>rfl) ?_) (fun _ h=>⟨Q6 h.1,h.2⟩);intro s c hc;have h0:c=0:=by omega
 subst h0;rfl
def afJ(N:Nat): WD enc w (N+4) 33 3 uG (fun e=>e.table=[]/\e.ver=0/\e.input=[]/\big e.rules.length/\big e.rows.length/\ ∀ r ∈ e.rows,big r.length):=by
 have h:=lf.struct (enc:=enc) (w:=w) (N:=N+3) (n:=3) Tryz.underlying33 (by kernel_rfl) (fun _=>rfl) (.cons (E9 _ Tryz.underlying29 (by kernel_rfl)).wide rfl (.cons (adR (N+2)) rfl (.cons (adS N) rfl .nil)));exact h.map (fun p=>⟨[],0,[],p.1,p.2.1,p.2.2.1⟩) (fun _=>rfl) (fun _=>rfl) (fun p h=>⟨rfl,rfl,rfl,h.2.1,h.2.2.1.1,h.2.2.1.2⟩)
def acn {v : Value} {d : DataW H} {ps : List MemPlace} {base : Nat} (hval : Value.okWide Tryz.prog w .any base 33 v) (hd : DataW.Trod enc Tryz.prog w 0 (fun _ => true) true 33 v d ps) (hw : (d.weights Tryz.prog 33).all (· <= reachBytes) = true) :
    ∃ e:jL,CW e/\VR (aE.all w) w (.agg (uG e)) v:=by
 obtain⟨cs,rfl,_⟩:=Go.WideShapes.okWide_struct Tryz.underlying33 hval
 obtain⟨t,h1,h2⟩:=lf.deep (fun N=>by
  have:=afJ (enc:=enc) (w:=w) N;exact⟨this.1,this.2.1,fun f cs x hf hx=>this.2.2 f cs x (by omega) hx⟩) hd hw
 exact⟨t,⟨by rw[h1.2.2.1];decide,h1.2.2.2.1,h1.2.2.2.2.1,h1.2.2.2.2.2⟩,nP.agg h2 rfl⟩
end
def afY: Value:= .agg #[.int .i64 0,.slice none 0 0,.slice none 0 0]
def afZ {a b c d : AV} {x y z u : Value} {g : aE} {w : World} (h1 : VR g w a x) (h2 : VR g w b y) (h3 : VR g w c z) (h4 : VR g w d u) :
    ∀ i,i<[a,b,c,d].length->VR g w ([a,b,c,d].getD i .undef) (#[x,y,z,u].getD i Go.undef):=by
 intro i hi
 match i,hi with
 | 0,_=>exact h1
 | 1,_=>exact h2
 | 2,_=>exact h3
 | 3,_=>exact h4
def own: ownKnob Tryz.prog.godebug=none:=by kernel_rfl
def kids: Kids Tryz.prog (· < Tryz.prog.types.size):=kids_rows (by kernel_rfl) (by kernel_rfl)
def full: ∀ t e,t<Tryz.prog.types.size->Tryz.prog.underlying t=some (.slice e)->0<Tryz.prog.cellsOf e:=slices_full_of Tryz.prog (by kernel_rfl)
def yV: List (String × DataW Unit):=Rows.entryHoldsRow.laid
def K7 {W : World} {g : Nat} {t : TypeId} {cs : Array Value} {fuel : Nat} {p : List MemPlace} (hg : Tryz.prog.globalNamed "internal/strconv.uint64pow10" = some g) (ht : (Tryz.prog.globals[g]?).map (·.type) = some t) (hv : W.var? Tryz.prog "internal/strconv.uint64pow10" = some cs)
    (hd:DataW.trod (fun _=>()) Tryz.prog W 0 (fun _=>true) false fuel t cs.toList=some (Rows.laid_internal_strconv_uint64pow10,p)):wW (aE.all W) W:=by
 have e:Rows.laid_internal_strconv_uint64pow10=Lib.tabData (H:=Unit) .u64 Lib.pow10Tab:=by kernel_rfl
 rw[e]at hd;have hg1:g=1:=Option.some.inj (hg.symm.trans K9);subst hg1;have hgt:(Tryz.prog.globals[1]?).map (·.type)=some t:=ht;have ht2:(Tryz.prog.globals[1]?).map (·.type)=some 307:=by kernel_rfl
 have e3:t=307:=Option.some.inj (hgt.symm.trans ht2);subst e3;have hcs:=Lib.cells_of_tab Tryz.underlying307 Tryz.underlying152 (by kernel_rfl) (by kernel_rfl) hd
 have hok:Ad W:=by
  show W.var? Tryz.prog "internal/strconv.uint64pow10" = some (Lib.pow10Tab.map fun z => Value.int .u64 z).toArray
  rw[hv,<-hcs]
 refine⟨fun b hb=>?_,hok⟩;simp only[NV,List.mem_cons,List.not_mem_nil,or_false]at hb;subst hb;have hc:=Lib.TabIs.cell hok hg 0 (by decide);show 1<W.heap.size;simp only[World.cell?]at hc;split at hc
 ·rename_i x hx;exact(dH.1 hx).1
 ·cases hc
def Ss{W:World}(h:laidMetH Tryz.prog yV W): wW (aE.all W) W:=by
 have h:laidMet Tryz.prog yV W:=h
 first
  |(obtain⟨ps,⟨g,t,cs,fuel,p,q,hg,ht,hv,hd,_⟩,_⟩:=h;exact K7 hg ht hv hd)
  |(obtain⟨ps,⟨_,_,_,_,_,q,_,_,_,_,⟨g,t,cs,fuel,p,q2,hg,ht,hv,hd,_⟩,_⟩,_⟩:=h;exact K7 hg ht hv hd)
  |(obtain⟨ps,⟨_,_,_,_,_,q,_,_,_,_,⟨_,_,_,_,_,q2,_,_,_,_,⟨g,t,cs,fuel,p,q3,hg,ht,hv,hd,_⟩,_⟩,_⟩,_⟩:=h;exact K7 hg ht hv hd)
def agR: DataW Unit->Value
 | .lit (.int k n)=> .int k n
 | _=>Go.undef
def afK: DataW Unit->Array Value
 | .agg l=>(l.map agR).toArray
 | _=> #[]
def K8(d:DataW Unit): Obj->Obj
 | .cells _ t fz=> .cells (afK d) t fz
 | o=>o
noncomputable def oL (os:Os):World :=
 { World.holding Tryz.prog os ⟨#[],#[],[]⟩with heap:=(((World.holding Tryz.prog os ⟨#[],#[],[]⟩).heap.modify 2 (K8 Rows.laid_math_bits_deBruijn32tab)).modify 3 (K8 Rows.laid_math_bits_deBruijn64tab)).modify 1 (K8 Rows.laid_internal_strconv_uint64pow10) }
def abV(os:Os)(args:Array Value): laidMetH Tryz.prog yV ((oL os).forCall (fun _ _=>0) ⟨#[],args,[]⟩).memory :=
 (laidMet_of_run' 8 (by kernel_rfl) (by kernel_rfl):laidMet Tryz.prog yV ((oL os).forCall (fun _ _=>0) ⟨#[],args,[]⟩).memory)
set_option maxRecDepth 100000 in
def afX {H : Type} {enc : TypeId × Value -> H} {os : Os} {f : FuncId} {fn : Func} {s : ChangeSpec} (xD : Array Value)
    (started:os.Started) (noInit:Tryz.checked.prog.inits.idxOf? f=none) (hfn:Tryz.checked.prog.funcs[f]? = some fn)
    (hv:((oL os).forCall (fun _ _=>0) ⟨#[],xD,[]⟩).variablesB Tryz.checked.prog=true)
    (hr : (((oL os).forCall (fun _ _ => 0) ⟨#[], xD, []⟩).heap.toList.drop Tryz.checked.prog.globals.size).take ((begin Tryz.checked.prog (fun _ _ => 0) default).world.heap.size - Tryz.checked.prog.globals.size) =
      (begin Tryz.checked.prog (fun _ _=>0) default).world.heap.toList.drop Tryz.checked.prog.globals.size)
    (hok:Input.okWideB Tryz.checked.prog ((oL os).forCall (fun _ _=>0) ⟨#[],xD,[]⟩) f ⟨#[],xD,[]⟩=true)
    (hpre:s.preB enc Tryz.checked.prog fn [] false ((oL os).forCall (fun _ _=>0) ⟨#[],xD,[]⟩).memory xD 8=true)
    (hsz:s.sizedB enc Tryz.checked.prog fn false ((oL os).forCall (fun _ _=>0) ⟨#[],xD,[]⟩).memory xD 8=true)
    (contract : ∀ (W : World) (base : Nat) (args : Array Value) (ds gs : List (DataW H)) (before : List MemPlace),
      (∀(j:Nat) t v,fn.params[j]? = some t->args[j]? = some v->Value.okWide Tryz.prog W .any base t v) ->
      DataW.Whole enc Tryz.prog fn.params.toList s.vars false W args.toList ds gs before->(DataW.weightsEach Tryz.prog (fn.params.toList++s.plain.varTypes Tryz.prog) (ds++gs)).all (·<=reachBytes)=true->wW (aE.all W) W ->
      Calls Tryz.prog f args W fun e W'=> ∃ v,e = .returned v/\s.post enc Tryz.prog fn false true false false W args v W') :
    ReturnsInHanded {} Tryz.checked os f .any (fun w args=>(s.pre enc Tryz.checked.prog fn [] false w args/\laidMetH Tryz.prog yV w)/\sizedMet enc Tryz.checked.prog fn (OpenSpec.ofChange s) false w args) (s.post enc Tryz.checked.prog fn false true false false):=by
 refine returnsInHanded_of_change_and (C:=Tryz.checked) (X:=fun w _=>laidMetH Tryz.prog yV w) (fun _ _ _ hh h=>h.of_heap hh) own started noInit hfn
  (ChangeSpec.witness_at (enc:=enc) (C:=Tryz.checked) (os:=os) (X:=fun w _=>laidMetH Tryz.prog yV w) false (oL os) xD 8 rfl hv hr hok hpre hsz (abV os _)) ?_
 intro W base args ds gs before h1 h2 _ h3 hL _;exact contract W base args ds gs before h1 h2 h3 (Ss hL)
def abW(P:Program)(h:P.funcs.any Func.goes=false)(f:FuncId): P.goes f=false:=by
 unfold Program.goes;rw[h,Bool.and_false,Bool.or_false,iQ];intro g _;cases hg:P.funcs[g]? with
 | none=>simp
 | some fn =>
   rw[Array.any_eq_false]at h;obtain⟨hl,rfl⟩:=dH.1 hg;simpa using h g hl
def T7(P:Program)(h:P.funcs.any Func.goes=false)(c:OpenClaim)(hs:c.start = .entering): false=c.goesBy P:=by
 unfold OpenClaim.goesBy Program.goesAt Program.goesFrom;rw[hs];cases P.funcNamed c.func with
 | none=>rfl
 | some f=>show false=(P.goes f || false);rw[abW P h];rfl
def Ww: Tryz.pinned.checked.prog.funcs.any Func.goes=false:=by kernel_rfl
def aco: laidOutB Tryz.checked.prog=true:=by kernel_rfl
def acp: mapsRowed Tryz.checked.prog=true:=by kernel_rfl
def Zn: Tryz.checked.prog.stopsHeard=true:=by kernel_rfl
def Zo: Tryz.checked.prog.mayEnter=true:=by kernel_rfl
