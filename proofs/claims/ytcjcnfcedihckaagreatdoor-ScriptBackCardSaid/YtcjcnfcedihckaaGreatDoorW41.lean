/- Part. -/
import Derived.Test.YtcjcnfcedihckaaGreatDoorW40
import Derived.Test.YtcjcnfcedihckaaGreatDoorRows
import Derived.SevenTiedAt
import Derived.LaidLaws
import Derived.LaidHandle
import Derived.Lib.LaidTab
set_option linter.all false
namespace Go.Proofs.YtcjcnfcedihckaaGreatDoor
open Go.AM
set_option maxRecDepth 8000
section
variable {H:Type} {enc:TypeId × Value->H} {w:World}
abbrev Zf(n:Int): Prop:= -9223372036854775808<=n/\n<=9223372036854775807
abbrev RD(enc:TypeId × Value->H)(w:World)(N:Nat)(t:TypeId)(n:Nat){α : Type}(E : α->List AV)(G : α->Prop): Prop:=Reads enc Tryz.prog w N t n E G
def Iw(N:Nat){t:TypeId}(ht:Tryz.prog.underlying t=some (.int .i64))(hc:Tryz.prog.cellsOf t=1): RD enc w N t 1 (fun n:Int=>[I n]) Zf:=Reads.int ht hc
def DE(N:Nat): RD enc w N 9 1 (fun s:aI=>[.str s]) (fun _=>True):=Reads.str Tryz.underlying9 (by kernel_rfl)
def RU(N:Nat): RD enc w N 81 1 (fun n:Int=>[I n]) Zf:=Iw N Tryz.underlying81 (by kernel_rfl)
def DG(N:Nat): RD enc w N 3 1 (fun n:Int=>[I n]) Zf:=Iw N Tryz.underlying3 (by kernel_rfl)
def agG(v:ez): List AV:=[I v.kind,I v.n,.str v.s]
def rd_val(N:Nat): RD enc w (N+1) 83 3 agG Ow:=by
 have h:=Reads.struct (enc:=enc) (w:=w) (N:=N) (n:=3) Tryz.underlying83 (by kernel_rfl) (fun _=>rfl) (.cons (RU N) rfl (.cons (DG N) rfl (.cons (DE N) rfl .nil)));exact h.map (fun p=>⟨p.1,p.2.1,p.2.2.1⟩) (fun _=>rfl) (fun _=>rfl) (fun p h=>h.2.1)
def RV(N:Nat): RD enc w (N+2) 47 1 (fun l:List ez=>[dh l]) (fun l=> ∀ v ∈ l,Ow v) :=
 Reads.slice EV fD Tryz.underlying47 (by kernel_rfl) (rd_val N) (by decide) rfl (fun _=>rfl) (fun _ _ _=>rfl)
def agH(c:cV): List AV:=[.str c.name,I c.kind,dh c.order]
def adw(N:Nat): RD enc w (N+3) 110 3 agH (fun c=> ∀ v ∈ c.order,Ow v):=by
 have h:=Reads.struct (enc:=enc) (w:=w) (N:=N+2) (n:=3) Tryz.underlying110 (by kernel_rfl) (fun _=>rfl) (.cons (DE _) rfl (.cons (RU _) rfl (.cons (RV N) rfl .nil)));exact h.map (fun p=>⟨p.1,p.2.1,p.2.2.1⟩) (fun _=>rfl) (fun _=>rfl) (fun p h=>h.2.2.1)
def RW(N:Nat): RD enc w (N+4) 41 1 (fun l:List cV=>[cH l]) TA :=
 Reads.slice EC bu Tryz.underlying41 (by kernel_rfl) (adw N) (by decide) rfl (fun _=>rfl) (fun _ _ _=>rfl)
def RX(N:Nat): RD enc w (N+1) 31 1 (fun l:List aI=>[bM l]) (fun _=>True):=by
 refine(Reads.slice E1 bB Tryz.underlying31 (by kernel_rfl) (DE N) (by decide) rfl (fun _=>rfl) ?_).weak (fun _ _=>trivial);intro s c hc;have h0:c=0:=by omega
 subst h0;rfl
def aeG(r:eL): List AV:=[bM r.cells,bM r.outs]
def abr(N:Nat): RD enc w (N+2) 80 2 aeG (fun _=>True):=by
 have h:=Reads.struct (enc:=enc) (w:=w) (N:=N+1) (n:=2) Tryz.underlying80 (by kernel_rfl) (fun _=>rfl) (.cons (RX N) rfl (.cons (RX N) rfl .nil));exact h.map (fun p=>⟨p.1,p.2.1⟩) (fun _=>rfl) (fun _=>rfl) (fun p h=>trivial)
def Zg(N:Nat): RD enc w (N+3) 44 1 (fun l:List eL=>[eA l]) (fun _=>True) :=
 (Reads.slice ER cu Tryz.underlying44 (by kernel_rfl) (abr N) (by decide) rfl (fun _=>rfl) (fun _ _ _=>rfl)).weak (fun _ _=>trivial)
def Zh(N:Nat): RD enc w (N+5) 46 6 gQ FC:=by
 have h:=Reads.struct (enc:=enc) (w:=w) (N:=N+4) (n:=6) Tryz.underlying46 (by kernel_rfl) (fun _=>rfl) (.cons (DE _) rfl (.cons (RW N) rfl (.cons (RW N) rfl (.cons (Iw _ Tryz.underlying42 (by kernel_rfl)) rfl (.cons (Iw _ Tryz.underlying43 (by kernel_rfl)) rfl (.cons (Zg (N+1)) rfl .nil))))));exact h.map (fun p=>⟨p.1,p.2.1,p.2.2.1,p.2.2.2.1,p.2.2.2.2.1,p.2.2.2.2.2.1⟩) (fun _=>rfl) (fun _=>rfl) (fun p h=>⟨h.2.1,h.2.2.1⟩)
end
end Go.Proofs.YtcjcnfcedihckaaGreatDoor
namespace Go.Proofs.YtcjcnfcedihckaaGreatDoor
open Go.AM
set_option maxRecDepth 8000
section
variable {H:Type} {enc:TypeId × Value->H} {w:World}
def adx(N:Nat): RD enc w (N+6) 49 12 iL xC:=by
 have h:=Reads.struct (enc:=enc) (w:=w) (N:=N+5) (n:=12) Tryz.underlying49 (by kernel_rfl) (fun _=>rfl) (.cons (DG _) rfl (.cons (Zh N) rfl (.cons (DE _) rfl (.cons (DG _) rfl (.cons (RV (N+3)) rfl (.cons (DG _) rfl (.cons (DG _) rfl .nil)))))));exact h.map (fun p=>(⟨p.1,p.2.1,p.2.2.1,p.2.2.2.1,p.2.2.2.2.1,p.2.2.2.2.2.1,p.2.2.2.2.2.2.1⟩:ef)) (fun _=>rfl) (fun _=>rfl) (fun p h=>⟨h.1,h.2.1,h.2.2.2.1,h.2.2.2.2.1,h.2.2.2.2.2.1,h.2.2.2.2.2.2.1⟩)
def abt(N:Nat): RD enc w (N+7) 22 1 (fun l:List ef=>[jG l]) (fun l=> ∀ c ∈ l,xC c) :=
 Reads.slice EM dU Tryz.underlying22 (by kernel_rfl) (adx N) (by decide) rfl (fun _=>rfl) (fun _ _ _=>rfl)
def QH{v:Value}{d:DataW H}{ps:List MemPlace}{base:Nat}(hval:Value.okWide Tryz.prog w .any base 22 v)(hd:DataW.Trod enc Tryz.prog w 0 (fun _=>true) true 22 v d ps): ∃ l:List ef,(∀ c ∈ l,xC c)/\VR (aJ.all w) w (jG l) v:=by
 obtain⟨a,len,cap,rfl⟩:=Go.WideShapes.okWide_slice Tryz.underlying22 hval
 obtain⟨t,h1,h2⟩:=Reads.deep (fun N=>by
  have:=abt (enc:=enc) (w:=w) N;exact⟨this.1,this.2.1,fun f cs x hf hx=>this.2.2 f cs x (by omega) hx⟩) hd
 exact⟨t,h1,h2.2 0 (by simp)⟩
end
end Go.Proofs.YtcjcnfcedihckaaGreatDoor
namespace Go.Proofs.YtcjcnfcedihckaaGreatDoor
open Go.AM Go.ChangeShapes Go.WideShapes Go.ChangeAt Go.RowKit
set_option maxRecDepth 8000
def own: ownKnob Tryz.prog.godebug=none:=by kernel_rfl
def kids: Kids Tryz.prog (· < Tryz.prog.types.size):=kids_rows (by kernel_rfl) (by kernel_rfl)
def full: ∀ t e,t<Tryz.prog.types.size->Tryz.prog.underlying t=some (.slice e)->0<Tryz.prog.cellsOf e:=slices_full_of Tryz.prog (by kernel_rfl)
def uJ: List (String × DataW Unit):=Rows.scriptOnlyRow.laid
def abu {W : World} {g : Nat} {t : TypeId} {cs : Array Value} {fuel : Nat} {p : List MemPlace} (hg : Tryz.prog.globalNamed "internal/strconv.uint64pow10" = some g) (ht : (Tryz.prog.globals[g]?).map (·.type) = some t) (hv : W.var? Tryz.prog "internal/strconv.uint64pow10" = some cs)
    (hd:DataW.trod (fun _=>()) Tryz.prog W 0 (fun _=>true) false fuel t cs.toList=some (Rows.laid_internal_strconv_uint64pow10,p)):MB W/\3<W.heap.size:=by
 have e:Rows.laid_internal_strconv_uint64pow10=Lib.tabData (H:=Unit) .u64 Lib.pow10Tab:=by kernel_rfl
 rw[e]at hd;have VU:g=3:=Option.some.inj (hg.symm.trans J3);subst VU;have hgt:(Tryz.prog.globals[3]?).map (·.type)=some t:=ht;have ht2:(Tryz.prog.globals[3]?).map (·.type)=some 243:=by kernel_rfl
 have e3:t=243:=Option.some.inj (hgt.symm.trans ht2);subst e3;have hcs:=Lib.cells_of_tab Tryz.underlying243 Tryz.underlying166 (by kernel_rfl) (by kernel_rfl) hd
 have hok:MB W:=by
  show W.var? Tryz.prog "internal/strconv.uint64pow10" = some (Lib.pow10Tab.map fun z => Value.int .u64 z).toArray
  rw[hv,<-hcs]
 refine⟨hok,?_⟩;have hc:=Lib.TabIs.cell hok hg 0 (by decide);simp only[World.cell?]at hc;split at hc
 ·rename_i x hx;exact(dz.1 hx).1
 ·cases hc
def ady{W:World}{s:String}{g:Nat}{cs:Array Value}(hg:Tryz.prog.globalNamed s=some g)(hv:W.var? Tryz.prog s=some cs): g<W.heap.size:=by
 unfold World.var? at hv;simp only[hg,gW]at hv;cases hx:W.heap[g]? with
 | none=>rw[hx]at hv;simp at hv
 | some o=>exact(dz.1 hx).1
def RY {W : World} {s nm : String} {k g : Nat} {t : TypeId} {cs : Array Value} {fuel : Nat} {p : List MemPlace} {d : DataW Unit} (hk : Tryz.prog.globalNamed s = some k) (hkt : (Tryz.prog.globals[k]?).map (·.type) = some 59) (hg : Tryz.prog.globalNamed s = some g) (ht : (Tryz.prog.globals[g]?).map (·.type) = some t) (hv : W.var? Tryz.prog s = some cs)
    (hd:DataW.trod (fun _=>()) Tryz.prog W 0 (fun _=>true) false fuel t cs.toList=some (.iface nm d,p)):wR W s/\k<W.heap.size:=by
 obtain rfl:g=k:=Option.some.inj (hg.symm.trans hk);obtain rfl:t=59:=Option.some.inj (ht.symm.trans hkt);obtain⟨f,u,v,hc,_,_⟩:=iface_of_trod Tryz.underlying59 hd;have e:cs = #[.iface u v]:=by rw[<-Array.toList_inj,hc]
 exact⟨⟨u,v,by rw[hv,e]⟩,ady hk hv⟩
def QG{W:World}(h:laidMetH Tryz.prog uJ W): xR (aJ.all W) W:=by
 have h:laidMet Tryz.prog uJ W:=h;obtain⟨ps,hl,_⟩:=h;obtain⟨_,_,_,_,_,_,_,_,_,_,hl,_⟩:=hl;obtain⟨_,_,_,_,_,_,_,_,_,_,hl,_⟩:=hl;obtain⟨g,t,cs,fuel,p,q,hg,ht,hv,hd,hl,_⟩:=hl;obtain⟨h1,l1⟩:=abu hg ht hv hd;obtain⟨_,_,_,_,_,_,_,_,_,_,hl,_⟩:=hl;obtain⟨g,t,cs,fuel,p,q,hg,ht,hv,hd,hl,_⟩:=hl;obtain⟨h2,l2⟩:=RY J5 (by kernel_rfl) hg ht hv hd;obtain⟨g,t,cs,fuel,p,q,hg,ht,hv,hd,hl,_⟩:=hl;obtain⟨h3,l3⟩:=RY J4 (by kernel_rfl) hg ht hv hd;refine⟨fun b hb=>?_,h1,h3,h2⟩;simp only[DH,List.mem_cons,List.not_mem_nil,or_false]at hb;show b<W.heap.size;rcases hb with rfl|rfl|rfl<;>assumption
def aeH: DataW Unit->List Value
 | .lit (.int k n)=>[.int k n]
 | .agg l => l.map fun d => match d with
   | .lit (.int k n)=> .int k n
   | _=>Go.undef
 | _=>[Go.undef]
def adz: DataW Unit->Array Value
 | .agg l=>(l.flatMap aeH).toArray
 | _=> #[]
def zP(d:DataW Unit): Obj->Obj
 | .cells _ t fz=> .cells (adz d) t fz
 | o=>o
noncomputable def low:Nat:=(World.holding Tryz.prog default ⟨#[],#[],[]⟩).heap.size
noncomputable def Xl (n:Nat):Obj->Obj
 | .cells _ t fz=> .cells #[.iface 351 (.pointer (some ⟨n,0,none⟩))] t fz
 | o=>o
abbrev adA: ByteArray:= { data:= #[118,97,108,117,101,32,111,117,116,32,111,102,32,114,97,110,103,101] }
abbrev abv: ByteArray:= { data:= #[105,110,118,97,108,105,100,32,115,121,110,116,97,120] }
noncomputable def oh (os:Os):World :=
 let w0:=World.holding Tryz.prog os ⟨#[.cells #[.string adA] 353,.cells #[.string abv] 353],#[],[]⟩
 { w0 with heap:=((((((w0.heap.modify 4 (zP Rows.laid_math_bits_deBruijn32tab)).modify 5 (zP Rows.laid_math_bits_deBruijn64tab)).modify 3 (zP Rows.laid_internal_strconv_uint64pow10)).modify 2 (zP Rows.laid_unicode_utf8_acceptRanges)).modify 1 (zP Rows.laid_unicode_utf8_first)).modify 7 (Xl low)).modify 6 (Xl (low+1)) }
def Zi(os:Os)(args:Array Value): laidMetH Tryz.prog uJ ((oh os).forCall (fun _ _=>0) ⟨#[],args,[]⟩).memory :=
 (laidMet_of_run' 8 (by kernel_rfl) (by kernel_rfl):laidMet Tryz.prog uJ ((oh os).forCall (fun _ _=>0) ⟨#[],args,[]⟩).memory)
set_option maxRecDepth 100000 in
def RZ {H : Type} {enc : TypeId × Value -> H} {os : Os} {f : FuncId} {fn : Func} {s : ChangeSpec} (wK : Array Value)
    (started:os.Started) (noInit:Tryz.checked.prog.inits.idxOf? f=none) (hfn:Tryz.checked.prog.funcs[f]? = some fn)
    (hv:((oh os).forCall (fun _ _=>0) ⟨#[],wK,[]⟩).variablesB Tryz.checked.prog=true)
    (hr : (((oh os).forCall (fun _ _ => 0) ⟨#[], wK, []⟩).heap.toList.drop Tryz.checked.prog.globals.size).take ((begin Tryz.checked.prog (fun _ _ => 0) default).world.heap.size - Tryz.checked.prog.globals.size) =
      (begin Tryz.checked.prog (fun _ _=>0) default).world.heap.toList.drop Tryz.checked.prog.globals.size)
    (hok:Input.okWideB Tryz.checked.prog ((oh os).forCall (fun _ _=>0) ⟨#[],wK,[]⟩) f ⟨#[],wK,[]⟩=true)
    (hpre:s.preB enc Tryz.checked.prog fn [] false ((oh os).forCall (fun _ _=>0) ⟨#[],wK,[]⟩).memory wK 8=true)
    (hsz:s.sizedB enc Tryz.checked.prog fn false ((oh os).forCall (fun _ _=>0) ⟨#[],wK,[]⟩).memory wK 8=true)
    (contract : ∀ (W : World) (base : Nat) (args : Array Value) (ds gs : List (DataW H)) (before : List MemPlace),
      (∀(j:Nat) t v,fn.params[j]? = some t->args[j]? = some v->Value.okWide Tryz.prog W .any base t v) ->
      DataW.Whole enc Tryz.prog fn.params.toList s.vars false W args.toList ds gs before->xR (aJ.all W) W ->
      Calls Tryz.prog f args W fun e W'=> ∃ v,e = .returned v/\s.post enc Tryz.prog fn false true false false W args v W') :
    ReturnsInHanded {} Tryz.checked os f .any (fun w args=>(s.pre enc Tryz.checked.prog fn [] false w args/\laidMetH Tryz.prog uJ w)/\sizedMet enc Tryz.checked.prog fn (OpenSpec.ofChange s) false w args) (s.post enc Tryz.checked.prog fn false true false false):=by
 refine returnsInHanded_of_change_and (C:=Tryz.checked) (X:=fun w _=>laidMetH Tryz.prog uJ w) (fun _ _ _ hh h=>h.of_heap hh) own started noInit hfn
  (ChangeSpec.witness_at (enc:=enc) (C:=Tryz.checked) (os:=os) (X:=fun w _=>laidMetH Tryz.prog uJ w) false (oh os) wK 8 rfl hv hr hok hpre hsz (Zi os _)) ?_
 intro W base args ds gs before h1 h2 _ _ hL _;exact contract W base args ds gs before h1 h2 (QG hL)
def Zk{a:AV}{x:Value}{g:aJ}{w:World}(h1:VR g w a x): ∀ i,i<[a].length->VR g w ([a].getD i .undef) (#[x].getD i Go.undef):=by
 intro i hi
 match i,hi with
 | 0,_=>exact h1
def adO{a b c:AV}{x y z:Value}{g:aJ}{w:World}(h1:VR g w a x)(h2:VR g w b y)(h3:VR g w c z): ∀ i,i<[a,b,c].length->VR g w ([a,b,c].getD i .undef) (#[x,y,z].getD i Go.undef):=by
 intro i hi
 match i,hi with
 | 0,_=>exact h1
 | 1,_=>exact h2
 | 2,_=>exact h3
def Zj(P:Program)(h:P.funcs.any Func.goes=false)(f:FuncId): P.goes f=false:=by
 unfold Program.goes;rw[h,f_,Bool.or_false,gE];intro g _;cases hg:P.funcs[g]? with
 | none=>simp
 | some fn =>
   rw[Array.any_eq_false]at h;obtain⟨hl,rfl⟩:=dz.1 hg;simpa using h g hl
def zQ(P:Program)(h:P.funcs.any Func.goes=false)(c:OpenClaim)(hs:c.start = .entering): false=c.goesBy P:=by
 unfold OpenClaim.goesBy Program.goesAt Program.goesFrom;rw[hs];cases P.funcNamed c.func with
 | none=>rfl
 | some f=>show false=(P.goes f || false);rw[Zj P h];rfl
def BQ: Tryz.pinned.checked.prog.funcs.any Func.goes=false:=by kernel_rfl
def Ix: laidOutB Tryz.checked.prog=true:=by kernel_rfl
def Iy: mapsRowed Tryz.checked.prog=true:=by kernel_rfl
def E8: Tryz.checked.prog.stopsHeard=true:=by kernel_rfl
def E9: Tryz.checked.prog.mayEnter=true:=by kernel_rfl
