/- Part. -/
import Derived.Test.YtcjcnfcedihckaaGreatDoorW39
import Derived.Test.YtcjcnfcedihckaaGreatDoorRows
import Derived.SevenTiedAt
import Derived.LaidLaws
import Derived.LaidHandle
import Derived.Lib.LaidTab
set_option linter.all false
namespace Go.Proofs.YtcjcnfcedihckaaGreatDoor
open Go.AM
set_option maxRecDepth 8000
section
variable {H:Type} {enc:TypeId × Value->H} {w:World}
abbrev X7(n:Int): Prop:= -9223372036854775808<=n/\n<=9223372036854775807
abbrev RD(enc:TypeId × Value->H)(w:World)(N:Nat)(t:TypeId)(n:Nat){α : Type}(E : α->List AV)(G : α->Prop): Prop:=Reads enc Tryz.prog w N t n E G
def Hv(N:Nat){t:TypeId}(ht:Tryz.prog.underlying t=some (.int .i64))(hc:Tryz.prog.cellsOf t=1): RD enc w N t 1 (fun n:Int=>[I n]) X7:=Reads.int ht hc
def C4(N:Nat): RD enc w N 9 1 (fun s:aI=>[.str s]) (fun _=>True):=Reads.str Tryz.underlying9 (by kernel_rfl)
def QD(N:Nat): RD enc w N 81 1 (fun n:Int=>[I n]) X7:=Hv N Tryz.underlying81 (by kernel_rfl)
def C5(N:Nat): RD enc w N 3 1 (fun n:Int=>[I n]) X7:=Hv N Tryz.underlying3 (by kernel_rfl)
def afp(v:eu): List AV:=[I v.kind,I v.n,.str v.s]
def rd_val(N:Nat): RD enc w (N+1) 83 3 afp Nd:=by
 have h:=Reads.struct (enc:=enc) (w:=w) (N:=N) (n:=3) Tryz.underlying83 (by kernel_rfl) (fun _=>rfl) (.cons (QD N) rfl (.cons (C5 N) rfl (.cons (C4 N) rfl .nil)));exact h.map (fun p=>⟨p.1,p.2.1,p.2.2.1⟩) (fun _=>rfl) (fun _=>rfl) (fun p h=>h.2.1)
def QE(N:Nat): RD enc w (N+2) 47 1 (fun l:List eu=>[dy l]) (fun l=> ∀ v ∈ l,Nd v) :=
 Reads.slice EV fF Tryz.underlying47 (by kernel_rfl) (rd_val N) (by decide) rfl (fun _=>rfl) (fun _ _ _=>rfl)
def afq(c:cR): List AV:=[.str c.name,I c.kind,dy c.order]
def acg(N:Nat): RD enc w (N+3) 110 3 afq (fun c=> ∀ v ∈ c.order,Nd v):=by
 have h:=Reads.struct (enc:=enc) (w:=w) (N:=N+2) (n:=3) Tryz.underlying110 (by kernel_rfl) (fun _=>rfl) (.cons (C4 _) rfl (.cons (QD _) rfl (.cons (QE N) rfl .nil)));exact h.map (fun p=>⟨p.1,p.2.1,p.2.2.1⟩) (fun _=>rfl) (fun _=>rfl) (fun p h=>h.2.2.1)
def QG(N:Nat): RD enc w (N+4) 41 1 (fun l:List cR=>[cJ l]) Si :=
 Reads.slice EC bq Tryz.underlying41 (by kernel_rfl) (acg N) (by decide) rfl (fun _=>rfl) (fun _ _ _=>rfl)
def QH(N:Nat): RD enc w (N+1) 31 1 (fun l:List aI=>[bX l]) (fun _=>True):=by
 refine(Reads.slice E1 cj Tryz.underlying31 (by kernel_rfl) (C4 N) (by decide) rfl (fun _=>rfl) ?_).weak (fun _ _=>trivial);intro s c hc;have h0:c=0:=by omega
 subst h0;rfl
def ads(r:eE): List AV:=[bX r.cells,bX r.outs]
def aah(N:Nat): RD enc w (N+2) 80 2 ads (fun _=>True):=by
 have h:=Reads.struct (enc:=enc) (w:=w) (N:=N+1) (n:=2) Tryz.underlying80 (by kernel_rfl) (fun _=>rfl) (.cons (QH N) rfl (.cons (QH N) rfl .nil));exact h.map (fun p=>⟨p.1,p.2.1⟩) (fun _=>rfl) (fun _=>rfl) (fun p h=>trivial)
def X8(N:Nat): RD enc w (N+3) 44 1 (fun l:List eE=>[eF l]) (fun _=>True) :=
 (Reads.slice ER cu Tryz.underlying44 (by kernel_rfl) (aah N) (by decide) rfl (fun _=>rfl) (fun _ _ _=>rfl)).weak (fun _ _=>trivial)
def X9(N:Nat): RD enc w (N+5) 46 6 ia EH:=by
 have h:=Reads.struct (enc:=enc) (w:=w) (N:=N+4) (n:=6) Tryz.underlying46 (by kernel_rfl) (fun _=>rfl) (.cons (C4 _) rfl (.cons (QG N) rfl (.cons (QG N) rfl (.cons (Hv _ Tryz.underlying42 (by kernel_rfl)) rfl (.cons (Hv _ Tryz.underlying43 (by kernel_rfl)) rfl (.cons (X8 (N+1)) rfl .nil))))));exact h.map (fun p=>⟨p.1,p.2.1,p.2.2.1,p.2.2.2.1,p.2.2.2.2.1,p.2.2.2.2.2.1⟩) (fun _=>rfl) (fun _=>rfl) (fun p h=>⟨h.2.1,h.2.2.1⟩)
end
end Go.Proofs.YtcjcnfcedihckaaGreatDoor
namespace Go.Proofs.YtcjcnfcedihckaaGreatDoor
open Go.AM
set_option maxRecDepth 8000
section
variable {H:Type} {enc:TypeId × Value->H} {w:World}
def ach(N:Nat): RD enc w (N+6) 49 12 ju zb:=by
 have h:=Reads.struct (enc:=enc) (w:=w) (N:=N+5) (n:=12) Tryz.underlying49 (by kernel_rfl) (fun _=>rfl) (.cons (C5 _) rfl (.cons (X9 N) rfl (.cons (C4 _) rfl (.cons (C5 _) rfl (.cons (QE (N+3)) rfl (.cons (C5 _) rfl (.cons (C5 _) rfl .nil)))))));exact h.map (fun p=>(⟨p.1,p.2.1,p.2.2.1,p.2.2.2.1,p.2.2.2.2.1,p.2.2.2.2.2.1,p.2.2.2.2.2.2.1⟩:dX)) (fun _=>rfl) (fun _=>rfl) (fun p h=>⟨h.1,h.2.1,h.2.2.2.1,h.2.2.2.2.1,h.2.2.2.2.2.1,h.2.2.2.2.2.2.1⟩)
def aai(N:Nat): RD enc w (N+7) 22 1 (fun l:List dX=>[lI l]) (fun l=> ∀ c ∈ l,zb c) :=
 Reads.slice EM ey Tryz.underlying22 (by kernel_rfl) (ach N) (by decide) rfl (fun _=>rfl) (fun _ _ _=>rfl)
def YW{v:Value}{d:DataW H}{ps:List MemPlace}{base:Nat}(hval:Value.okWide Tryz.prog w .any base 22 v)(hd:DataW.Trod enc Tryz.prog w 0 (fun _=>true) true 22 v d ps): ∃ l:List dX,(∀ c ∈ l,zb c)/\VR (aJ.all w) w (lI l) v:=by
 obtain⟨a,len,cap,rfl⟩:=Go.WideShapes.okWide_slice Tryz.underlying22 hval
 obtain⟨t,h1,h2⟩:=Reads.deep (fun N=>by
  have:=aai (enc:=enc) (w:=w) N;exact⟨this.1,this.2.1,fun f cs x hf hx=>this.2.2 f cs x (by omega) hx⟩) hd
 exact⟨t,h1,h2.2 0 (by simp)⟩
end
end Go.Proofs.YtcjcnfcedihckaaGreatDoor
namespace Go.Proofs.YtcjcnfcedihckaaGreatDoor
open Go.AM Go.ChangeShapes Go.WideShapes Go.ChangeAt Go.RowKit
set_option maxRecDepth 8000
def own: ownKnob Tryz.prog.godebug=none:=by kernel_rfl
def kids: Kids Tryz.prog (· < Tryz.prog.types.size):=kids_rows (by kernel_rfl) (by kernel_rfl)
def full: ∀ t e,t<Tryz.prog.types.size->Tryz.prog.underlying t=some (.slice e)->0<Tryz.prog.cellsOf e:=slices_full_of Tryz.prog (by kernel_rfl)
def vB: List (String × DataW Unit):=Rows.scriptOnlyRow.laid
def aaj {W : World} {g : Nat} {t : TypeId} {cs : Array Value} {fuel : Nat} {p : List MemPlace} (hg : Tryz.prog.globalNamed "internal/strconv.uint64pow10" = some g) (ht : (Tryz.prog.globals[g]?).map (·.type) = some t) (hv : W.var? Tryz.prog "internal/strconv.uint64pow10" = some cs)
    (hd:DataW.trod (fun _=>()) Tryz.prog W 0 (fun _=>true) false fuel t cs.toList=some (Rows.laid_internal_strconv_uint64pow10,p)):Ll W/\3<W.heap.size:=by
 have e:Rows.laid_internal_strconv_uint64pow10=Lib.tabData (H:=Unit) .u64 Lib.pow10Tab:=by kernel_rfl
 rw[e]at hd;have UJ:g=3:=Option.some.inj (hg.symm.trans IZ);subst UJ;have hgt:(Tryz.prog.globals[3]?).map (·.type)=some t:=ht;have ht2:(Tryz.prog.globals[3]?).map (·.type)=some 243:=by kernel_rfl
 have e3:t=243:=Option.some.inj (hgt.symm.trans ht2);subst e3;have hcs:=Lib.cells_of_tab Tryz.underlying243 Tryz.underlying166 (by kernel_rfl) (by kernel_rfl) hd
 have hok:Ll W:=by
  show W.var? Tryz.prog "internal/strconv.uint64pow10" = some (Lib.pow10Tab.map fun z => Value.int .u64 z).toArray
  rw[hv,<-hcs]
 refine⟨hok,?_⟩;have hc:=Lib.TabIs.cell hok hg 0 (by decide);simp only[World.cell?]at hc;split at hc
 ·rename_i x hx;exact(dh.1 hx).1
 ·cases hc
def aci{W:World}{s:String}{g:Nat}{cs:Array Value}(hg:Tryz.prog.globalNamed s=some g)(hv:W.var? Tryz.prog s=some cs): g<W.heap.size:=by
 unfold World.var? at hv;simp only[hg,gC]at hv;cases hx:W.heap[g]? with
 | none=>rw[hx]at hv;simp at hv
 | some o=>exact(dh.1 hx).1
def QI {W : World} {s nm : String} {k g : Nat} {t : TypeId} {cs : Array Value} {fuel : Nat} {p : List MemPlace} {d : DataW Unit} (hk : Tryz.prog.globalNamed s = some k) (hkt : (Tryz.prog.globals[k]?).map (·.type) = some 59) (hg : Tryz.prog.globalNamed s = some g) (ht : (Tryz.prog.globals[g]?).map (·.type) = some t) (hv : W.var? Tryz.prog s = some cs)
    (hd:DataW.trod (fun _=>()) Tryz.prog W 0 (fun _=>true) false fuel t cs.toList=some (.iface nm d,p)):wk W s/\k<W.heap.size:=by
 obtain rfl:g=k:=Option.some.inj (hg.symm.trans hk);obtain rfl:t=59:=Option.some.inj (ht.symm.trans hkt);obtain⟨f,u,v,hc,_,_⟩:=iface_of_trod Tryz.underlying59 hd;have e:cs = #[.iface u v]:=by rw[<-Array.toList_inj,hc]
 exact⟨⟨u,v,by rw[hv,e]⟩,aci hk hv⟩
def Pm{W:World}(h:laidMetH Tryz.prog vB W): xk (aJ.all W) W:=by
 have h:laidMet Tryz.prog vB W:=h;obtain⟨ps,hl,_⟩:=h;obtain⟨_,_,_,_,_,_,_,_,_,_,hl,_⟩:=hl;obtain⟨_,_,_,_,_,_,_,_,_,_,hl,_⟩:=hl;obtain⟨g,t,cs,fuel,p,q,hg,ht,hv,hd,hl,_⟩:=hl;obtain⟨h1,l1⟩:=aaj hg ht hv hd;obtain⟨_,_,_,_,_,_,_,_,_,_,hl,_⟩:=hl;obtain⟨g,t,cs,fuel,p,q,hg,ht,hv,hd,hl,_⟩:=hl;obtain⟨h2,l2⟩:=QI I1 (by kernel_rfl) hg ht hv hd;obtain⟨g,t,cs,fuel,p,q,hg,ht,hv,hd,hl,_⟩:=hl;obtain⟨h3,l3⟩:=QI I0 (by kernel_rfl) hg ht hv hd;refine⟨fun b hb=>?_,h1,h3,h2⟩;simp only[C6,List.mem_cons,List.not_mem_nil,or_false]at hb;show b<W.heap.size;rcases hb with rfl|rfl|rfl<;>assumption
def adt: DataW Unit->List Value
 | .lit (.int k n)=>[.int k n]
 | .agg l => l.map fun d => match d with
   | .lit (.int k n)=> .int k n
   | _=>Go.undef
 | _=>[Go.undef]
def acj: DataW Unit->Array Value
 | .agg l=>(l.flatMap adt).toArray
 | _=> #[]
def zk(d:DataW Unit): Obj->Obj
 | .cells _ t fz=> .cells (acj d) t fz
 | o=>o
noncomputable def low:Nat:=(World.holding Tryz.prog default ⟨#[],#[],[]⟩).heap.size
noncomputable def Wa (n:Nat):Obj->Obj
 | .cells _ t fz=> .cells #[.iface 351 (.pointer (some ⟨n,0,none⟩))] t fz
 | o=>o
abbrev ack: ByteArray:= { data:= #[118,97,108,117,101,32,111,117,116,32,111,102,32,114,97,110,103,101] }
abbrev aak: ByteArray:= { data:= #[105,110,118,97,108,105,100,32,115,121,110,116,97,120] }
noncomputable def nU (os:Os):World :=
 let w0:=World.holding Tryz.prog os ⟨#[.cells #[.string ack] 353,.cells #[.string aak] 353],#[],[]⟩
 { w0 with heap:=((((((w0.heap.modify 4 (zk Rows.laid_math_bits_deBruijn32tab)).modify 5 (zk Rows.laid_math_bits_deBruijn64tab)).modify 3 (zk Rows.laid_internal_strconv_uint64pow10)).modify 2 (zk Rows.laid_unicode_utf8_acceptRanges)).modify 1 (zk Rows.laid_unicode_utf8_first)).modify 7 (Wa low)).modify 6 (Wa (low+1)) }
def X_(os:Os)(args:Array Value): laidMetH Tryz.prog vB ((nU os).forCall (fun _ _=>0) ⟨#[],args,[]⟩).memory :=
 (laidMet_of_run' 8 (by kernel_rfl) (by kernel_rfl):laidMet Tryz.prog vB ((nU os).forCall (fun _ _=>0) ⟨#[],args,[]⟩).memory)
set_option maxRecDepth 100000 in
def Yb {H : Type} {enc : TypeId × Value -> H} {os : Os} {f : FuncId} {fn : Func} {s : ChangeSpec} (vZ : Array Value)
    (started:os.Started) (noInit:Tryz.checked.prog.inits.idxOf? f=none) (hfn:Tryz.checked.prog.funcs[f]? = some fn)
    (hv:((nU os).forCall (fun _ _=>0) ⟨#[],vZ,[]⟩).variablesB Tryz.checked.prog=true)
    (hr : (((nU os).forCall (fun _ _ => 0) ⟨#[], vZ, []⟩).heap.toList.drop Tryz.checked.prog.globals.size).take ((begin Tryz.checked.prog (fun _ _ => 0) default).world.heap.size - Tryz.checked.prog.globals.size) =
      (begin Tryz.checked.prog (fun _ _=>0) default).world.heap.toList.drop Tryz.checked.prog.globals.size)
    (hok:Input.okWideB Tryz.checked.prog ((nU os).forCall (fun _ _=>0) ⟨#[],vZ,[]⟩) f ⟨#[],vZ,[]⟩=true)
    (hpre:s.preB enc Tryz.checked.prog fn [] false ((nU os).forCall (fun _ _=>0) ⟨#[],vZ,[]⟩).memory vZ 8=true)
    (hsz:s.sizedB enc Tryz.checked.prog fn false ((nU os).forCall (fun _ _=>0) ⟨#[],vZ,[]⟩).memory vZ 8=true)
    (contract : ∀ (W : World) (base : Nat) (args : Array Value) (ds gs : List (DataW H)) (before : List MemPlace),
      (∀(j:Nat) t v,fn.params[j]? = some t->args[j]? = some v->Value.okWide Tryz.prog W .any base t v) ->
      DataW.Whole enc Tryz.prog fn.params.toList s.vars false W args.toList ds gs before->xk (aJ.all W) W ->
      Calls Tryz.prog f args W fun e W'=> ∃ v,e = .returned v/\s.post enc Tryz.prog fn false true false false W args v W') :
    ReturnsInHanded {} Tryz.checked os f .any (fun w args=>(s.pre enc Tryz.checked.prog fn [] false w args/\laidMetH Tryz.prog vB w)/\sizedMet enc Tryz.checked.prog fn (OpenSpec.ofChange s) false w args) (s.post enc Tryz.checked.prog fn false true false false):=by
 refine returnsInHanded_of_change_and (C:=Tryz.checked) (X:=fun w _=>laidMetH Tryz.prog vB w) (fun _ _ _ hh h=>h.of_heap hh) own started noInit hfn
  (ChangeSpec.witness_at (enc:=enc) (C:=Tryz.checked) (os:=os) (X:=fun w _=>laidMetH Tryz.prog vB w) false (nU os) vZ 8 rfl hv hr hok hpre hsz (X_ os _)) ?_
 intro W base args ds gs before h1 h2 _ _ hL _;exact contract W base args ds gs before h1 h2 (Pm hL)
def Yc{a:AV}{x:Value}{g:aJ}{w:World}(h1:VR g w a x): ∀ i,i<[a].length->VR g w ([a].getD i .undef) (#[x].getD i Go.undef):=by
 intro i hi
 match i,hi with
 | 0,_=>exact h1
def Ya(P:Program)(h:P.funcs.any Func.goes=false)(f:FuncId): P.goes f=false:=by
 unfold Program.goes;rw[h,fT,Bool.or_false,fZ];intro g _;cases hg:P.funcs[g]? with
 | none=>simp
 | some fn =>
   rw[Array.any_eq_false]at h;obtain⟨hl,rfl⟩:=dh.1 hg;simpa using h g hl
def FB(P:Program)(h:P.funcs.any Func.goes=false)(c:OpenClaim)(hs:c.start = .entering): false=c.goesBy P:=by
 unfold OpenClaim.goesBy Program.goesAt Program.goesFrom;rw[hs];cases P.funcNamed c.func with
 | none=>rfl
 | some f=>show false=(P.goes f || false);rw[Ya P h];rfl
def IY: Tryz.pinned.checked.prog.funcs.any Func.goes=false:=by kernel_rfl
def Pn: laidOutB Tryz.checked.prog=true:=by kernel_rfl
def Po: mapsRowed Tryz.checked.prog=true:=by kernel_rfl
def Lw: Tryz.checked.prog.stopsHeard=true:=by kernel_rfl
def Ly: Tryz.checked.prog.mayEnter=true:=by kernel_rfl
