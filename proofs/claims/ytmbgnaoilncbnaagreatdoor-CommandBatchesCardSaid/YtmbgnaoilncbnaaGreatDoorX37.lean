/- Part. -/
import Derived.Test.YtmbgnaoilncbnaaGreatDoorX36
import Derived.Test.YtmbgnaoilncbnaaGreatDoorRows
import Derived.LaidLaws
import Derived.LaidHandle
import Derived.Lib.LaidTab
set_option linter.all false
set_option maxHeartbeats 4000000
namespace Go.Proofs.YtmbgnaoilncbnaaGreatDoor
open Go.AM Go.ChangeShapes Go.WideShapes Go.ChangeAt Go.RowKit
def own: ownKnob Tryz.prog.godebug=none:=by kernel_rfl
def kids: Kids Tryz.prog (· < Tryz.prog.types.size):=kids_rows (by kernel_rfl) (by kernel_rfl)
def full: ∀ t e,t<Tryz.prog.types.size->Tryz.prog.underlying t=some (.slice e)->0<Tryz.prog.cellsOf e:=slices_full_of Tryz.prog (by kernel_rfl)
def wT: List (String × DataW Unit):=Rows.tcodecBytesRow.laid
def Ym{W:World}(h:laidMetH Tryz.prog wT W): Ee (aO.all W) W:=by
 have h:laidMet Tryz.prog wT W:=h;obtain⟨ps,⟨_,_,_,_,_,q,_,_,_,_,⟨_,_,_,_,_,q2,_,_,_,_,⟨g,t,cs,fuel,p,q3,hg,ht,hv,hd,_,_⟩,_⟩,_⟩,_⟩:=h;have e:Rows.laid_internal_strconv_uint64pow10=Lib.tabData (H:=Unit) .u64 Lib.pow10Tab:=by kernel_rfl
 rw[e]at hd;have hg1:g=1:=Option.some.inj (hg.symm.trans SJ);subst hg1;have hgt:(Tryz.prog.globals[1]?).map (·.type)=some t:=ht;have ht2:(Tryz.prog.globals[1]?).map (·.type)=some 338:=by kernel_rfl
 have e3:t=338:=Option.some.inj (hgt.symm.trans ht2);subst e3;have hcs:=Lib.cells_of_tab Tryz.underlying338 Tryz.underlying153 (by kernel_rfl) (by kernel_rfl) hd
 have hok:FW W:=by
  show W.var? Tryz.prog "internal/strconv.uint64pow10" = some (Lib.pow10Tab.map fun z => Value.int .u64 z).toArray
  rw[hv,<-hcs]
 refine⟨fun b hb=>?_,hok⟩;simp only[UR,List.mem_cons,List.not_mem_nil,or_false]at hb;subst hb;have hc:=Lib.TabIs.cell hok hg 0 (by decide);show 1<W.heap.size;simp only[World.cell?]at hc;split at hc
 ·rename_i x hx;exact(dR.1 hx).1
 ·cases hc
def ahX: DataW Unit->Value
 | .lit (.int k n)=> .int k n
 | _=>Go.undef
def agy: DataW Unit->Array Value
 | .agg l=>(l.map ahX).toArray
 | _=> #[]
def SD(d:DataW Unit): Obj->Obj
 | .cells _ t fz=> .cells (agy d) t fz
 | o=>o
noncomputable def qt (os:Os):World :=
 { World.holding Tryz.prog os ⟨#[],#[],[]⟩with heap:=(((World.holding Tryz.prog os ⟨#[],#[],[]⟩).heap.modify 2 (SD Rows.laid_math_bits_deBruijn32tab)).modify 3 (SD Rows.laid_math_bits_deBruijn64tab)).modify 1 (SD Rows.laid_internal_strconv_uint64pow10) }
def adV(os:Os)(args:Array Value): laidMetH Tryz.prog wT ((qt os).forCall (fun _ _=>0) ⟨#[],args,[]⟩).memory :=
 (laidMet_of_run' 8 (by kernel_rfl) (by kernel_rfl):laidMet Tryz.prog wT ((qt os).forCall (fun _ _=>0) ⟨#[],args,[]⟩).memory)
set_option maxRecDepth 100000 in
def UP {H : Type} {enc : TypeId × Value -> H} {os : Os} {f : FuncId} {fn : Func} {s : ChangeSpec} (Ch : Array Value)
    (started:os.Started) (noInit:Tryz.checked.prog.inits.idxOf? f=none) (hfn:Tryz.checked.prog.funcs[f]? = some fn)
    (hv:((qt os).forCall (fun _ _=>0) ⟨#[],Ch,[]⟩).variablesB Tryz.checked.prog=true)
    (hr : (((qt os).forCall (fun _ _ => 0) ⟨#[], Ch, []⟩).heap.toList.drop Tryz.checked.prog.globals.size).take ((begin Tryz.checked.prog (fun _ _ => 0) default).world.heap.size - Tryz.checked.prog.globals.size) =
      (begin Tryz.checked.prog (fun _ _=>0) default).world.heap.toList.drop Tryz.checked.prog.globals.size)
    (hok:Input.okWideB Tryz.checked.prog ((qt os).forCall (fun _ _=>0) ⟨#[],Ch,[]⟩) f ⟨#[],Ch,[]⟩=true)
    (hpre:s.preB enc Tryz.checked.prog fn [] false ((qt os).forCall (fun _ _=>0) ⟨#[],Ch,[]⟩).memory Ch 8=true)
    (hsz:s.sizedB enc Tryz.checked.prog fn false ((qt os).forCall (fun _ _=>0) ⟨#[],Ch,[]⟩).memory Ch 8=true)
    (contract : ∀ (W : World) (base : Nat) (args : Array Value) (ds gs : List (DataW H)) (before : List MemPlace),
      (∀(j:Nat) t v,fn.params[j]? = some t->args[j]? = some v->Value.okWide Tryz.prog W .any base t v) ->
      DataW.Whole enc Tryz.prog fn.params.toList s.vars false W args.toList ds gs before->Ee (aO.all W) W ->
      Calls Tryz.prog f args W fun e W'=> ∃ v,e = .returned v/\s.post enc Tryz.prog fn false true false false W args v W') :
    ReturnsInHanded {} Tryz.checked os f .any (fun w args=>(s.pre enc Tryz.checked.prog fn [] false w args/\laidMetH Tryz.prog wT w)/\sizedMet enc Tryz.checked.prog fn (OpenSpec.ofChange s) false w args) (s.post enc Tryz.checked.prog fn false true false false):=by
 refine returnsInHanded_of_change_and (C:=Tryz.checked) (X:=fun w _=>laidMetH Tryz.prog wT w) (fun _ _ _ hh h=>h.of_heap hh) own started noInit hfn
  (ChangeSpec.witness_at (enc:=enc) (C:=Tryz.checked) (os:=os) (X:=fun w _=>laidMetH Tryz.prog wT w) false (qt os) Ch 8 rfl hv hr hok hpre hsz (adV os _)) ?_
 intro W base args ds gs before h1 h2 _ _ hL _;exact contract W base args ds gs before h1 h2 (Ym hL)
def UQ{a b:AV}{x y:Value}{g:aO}{w:World}(h1:VR g w a x)(h2:VR g w b y): ∀ i,i<[a,b].length->VR g w ([a,b].getD i .undef) (#[x,y].getD i Go.undef):=by
 intro i hi
 match i,hi with
 | 0,_=>exact h1
 | 1,_=>exact h2
def Md: laidOutB Tryz.checked.prog=true:=by kernel_rfl
def Me: mapsRowed Tryz.checked.prog=true:=by kernel_rfl
def G2: Tryz.checked.prog.stopsHeard=true:=by kernel_rfl
def G3: Tryz.checked.prog.mayEnter=true:=by kernel_rfl
def Yn{l:List aJ}{i:Nat}(hi:i<l.length)(x:aJ): x++(l.take (i+1)).flatMap bC=(x++(l.take i).flatMap bC)++bC (l.getD i default):=by
 rw[take_succ hi,List.flatMap_append];simp
def Yo(l:List aJ)(hl:l.length<=2 ^ 10)(h:∀ t ∈ l,t.length<=2 ^ 20): ai Tryz.prog AG [eR l] (.str (p_ l)):=by
 have h1:=jw l.length ⟨by omega,by omega⟩;have h2:=cM l.length;obtain⟨E,hE⟩:∃ E,p_ l=E:=⟨_,rfl⟩;rw[hE];unfold p_ at hE;generalize cG l.length=x at *;simp only[eR];refine ai.aG (RR (by simp) ?_) (by simp);unfold IZ aP;intro Q au aA aB;repeat' first|refine aq ?_|refine aC h1 ?_|refine ak ?_ ?_<;>intro hw<;>try omega|fail
 with_reducible refine bn [3,5,12,13,14,15,16,17,18,19,20] (fun q:Nat=>[(12,I q),(3,.own E1 0 (x.length+((l.take q).flatMap bC).length) 0 (x.length+((l.take q).flatMap bC).length))]) (fun q=>[.vec E1 (nC (x++(l.take q).flatMap bC))]) (fun q=>q<=l.length/\x.length+((l.take q).flatMap bC).length<=10+q*2097152) (fun q=>l.length-q) (0) ?_ ?_ ?_ ?_
 ·simp;omega
 ·simp[E1]
 ·simp only[eU,eM,List.append_nil,List.length_nil,dI];simp (disch:=omega) only[dm,cK,and_true,go_sem,au,aA,aB,Int.natCast_add,Int.cast_ofNat_Int]<;>(try trivial)<;>(try omega)<;>(try (repeat (first|trivial|(refine And.intro ?_ ?_)|(congr 1;omega))))
 rintro i r ⟨g1,g3⟩;by_cases hi:i<l.length
 ·have hv:=h _ (a_ hi);have gH:=Yn hi x;obtain⟨v,jy⟩:∃ v,l.getD i default=v:=⟨_,rfl⟩;rw[jy]at hv gH;have h3:=qO v (by omega);have BC:=jz v;obtain⟨y,hy⟩:∃ y,x++(l.take i).flatMap bC=y:=⟨_,rfl⟩;have zP:y.length=x.length+((l.take i).flatMap bC).length:=by rw[<-hy,List.length_append]
  rw[hy]at gH;have o9:=congrArg List.length gH;simp only[List.length_append]at o9;rw[<-zP]at g3;have hap:nC y++nC (bC v)=nC (y++bC v):=by simp
  repeat' first|simp (disch:=omega) only[go_sem,au,aA,aB,jy,hy,<-zP,hap]|refine aq ?_|refine aC h3 ?_|refine ak ?_ ?_<;>intro hw<;>try omega|fail
  refine⟨i+1,?_,?_,?_,bJ,?_⟩
  ·exact⟨by omega,by omega⟩
  ·dsimp only;omega
  ·dsimp only;rw[gH];first|done|rfl|(simp[go_sem];done)
  ·dsimp only;rw[o9];simp (disch:=omega) only[dm,cK,and_true,go_sem,au,aA,aB,Int.natCast_add,Int.cast_ofNat_Int]<;>(try trivial)<;>(try omega)<;>(try (repeat (first|trivial|(refine And.intro ?_ ?_)|(congr 1;omega))))
 ·have ht:l.take i=l:=br (by omega);repeat' first|simp (disch:=omega) only[go_sem,au,aA,aB,ht]|refine aq ?_|refine ak ?_ ?_<;>intro hw<;>try omega|fail
  exact aM (by rw[<-hE]) rfl
def Ri(t:List aJ × aJ × Int): AV:= .bX [eR t.1,.str t.2.1,I t.2.2]
def Rj(s:aJ)(most m:Int)(hs:s.length<=2 ^ 30): ai Tryz.prog uN [.str s,I most,I m] (Ri (dV s most m)):=by
 have h1:=Rc s most (by omega);have hr:=dZ s;obtain⟨E,hE⟩:∃ E,dV s most m=E:=⟨_,rfl⟩;rw[hE];unfold dV at hE;generalize takeN s=t at *;obtain⟨n,r,e⟩:=t;dsimp only at hE hr h1;by_cases c1:e≠0
 ·rw[if_pos c1]at h1 hE;simp only[eN]at h1;refine ai.aG (oJ (by simp) ?_) (by simp[Ri]);unfold mI aP;intro Q au aA aB;repeat' first|refine aq ?_|refine aC h1 ?_|refine ak ?_ ?_<;>intro hw<;>try omega|fail
  all_goals first|exact aY|(refine bq ?_;rw[<-hE];exact wJ)
 by_cases c2:n<0
 ·rw[if_neg c1,if_pos c2]at h1 hE;simp only[eN]at h1;refine ai.aG (oJ (by simp) ?_) (by simp[Ri]);unfold mI aP;intro Q au aA aB;repeat' first|refine aq ?_|refine aC h1 ?_|refine ak ?_ ?_<;>intro hw<;>try omega|fail
  all_goals first|exact aY|(refine bq ?_;rw[<-hE];exact wJ)
 by_cases c3:n>most
 ·rw[if_neg c1,if_neg c2,if_pos c3]at h1 hE;simp only[eN]at h1;refine ai.aG (oJ (by simp) ?_) (by simp[Ri]);unfold mI aP;intro Q au aA aB;repeat' first|refine aq ?_|refine aC h1 ?_|refine ak ?_ ?_<;>intro hw<;>try omega|fail
  all_goals first|exact aY|(refine bq ?_;rw[<-hE];exact wJ)
 rw[if_neg c1,if_neg c2,if_neg c3]at h1 hE;simp only[eN]at h1;refine ai.aG (oJ (by simp) ?_) (by simp[Ri]);unfold mI aP;intro Q au aA aB;repeat' first|refine aq ?_|refine aC h1 ?_|refine ak ?_ ?_<;>intro hw<;>try omega|fail
 all_goals first|exact aY|skip
 with_reducible refine bn [6,7,8,10,11,12,13,24,25,26,27,28,29,30,31,32,33,34,35,36,37,38,39,40,41] (fun q:List aJ × aJ=>[(12,.own E1 0 q.1.length 0 q.1.length),(10,.str q.2)]) (fun q=>[.vec E1 (q.1.map cS)]) (fun q=>q.1.length+q.2.length<=2 ^ 30/\q.1.length<=n.toNat/\E=oS m (n.toNat-q.1.length) q.1 q.2) (fun q=>n.toNat-q.1.length) (([],r)) ?_ ?_ ?_ ?_
 ·exact⟨by simp;omega,by simp,hE.symm⟩
 ·rfl
 ·exact at_
 rintro⟨out,r⟩ u ⟨g1,g2,g3⟩;dsimp only at g1 g2 g3;by_cases hn:(out.length:Int)<n
 ·obtain⟨k,hk⟩:∃ k,n.toNat-out.length=k+1:=⟨n.toNat-out.length-1,by omega⟩;rw[hk,oS]at g3;have h2:=uv r m (by omega);have hv:=jh r m;generalize cj r m=t at *;obtain⟨v,r2,e2⟩:=t;dsimp only at g3 hv;simp only[eS]at h2;by_cases he:e2=0
  ·rw[if_neg (by omega)]at g3;have hlt:=hv.2.2.1 he;repeat' first|simp (disch:=omega) only[go_sem,au,aA,aB,he]|refine aq ?_|refine aC h2 ?_|refine ak ?_ ?_<;>intro hw<;>try omega|fail
   all_goals first
    | exact aY
    | (refine ⟨(out ++ [v], r2), ?_, ?_, ?_, bJ, at_⟩
       ·have e:n.toNat-(out++[v]).length=k:=by simp;omega
        dsimp only;rw[e];exact⟨by simp;omega,by simp;omega,g3⟩
       ·simp;omega
       ·first|rfl|(simp[go_sem];done))
  ·rw[if_pos he]at g3;repeat' first|refine aq ?_|refine aC h2 ?_|refine ak ?_ ?_<;>intro hw<;>try omega|fail
   all_goals first|exact aY|(refine bq ?_;rw[g3];exact wJ)
 ·have:n.toNat-out.length=0:=by omega
  rw[this,oS]at g3;repeat' first|refine aq ?_|refine ak ?_ ?_<;>intro hw<;>try omega|fail
  refine bq ?_;rw[g3];exact aW.cons (View.vec rfl (by simp) (by simp) (GI _)) (aW.refl rfl)
def Rk(s:aJ)(most m:Int)(hs:s.length<=2 ^ 30): ai Tryz.prog uO [.str s,I most,I m] (Ri (dV s most m)):=by
 have h1:=gW s (by omega);have hr:=dZ s;obtain⟨E,hE⟩:∃ E,dV s most m=E:=⟨_,rfl⟩;rw[hE];unfold dV at hE;generalize takeN s=t at *;obtain⟨n,r,e⟩:=t;dsimp only at hE hr;simp only[eN]at h1;refine ai.aG (Kx (by simp) ?_) (by simp[Ri]);unfold Bu aP;intro Q au aA aB;by_cases hb:e≠0\/n<0\/n>most
 ·repeat' first|refine aq ?_|refine aC h1 ?_|refine ak ?_ ?_<;>intro hw<;>try omega|fail
  all_goals first|exact aY|refine bq ?_
  ·rw[if_pos (by omega)]at hE;rw[<-hE];exact wJ
  ·rw[if_neg (by omega),if_pos (by omega)]at hE;rw[<-hE];exact wJ
  ·rw[if_neg (by omega),if_neg (by omega),if_pos (by omega)]at hE;rw[<-hE];exact wJ
 rw[if_neg (by omega),if_neg (by omega),if_neg (by omega)]at hE;repeat' first|refine aq ?_|refine aC h1 ?_|refine ak ?_ ?_<;>intro hw<;>try omega|fail
 all_goals first|exact aY|skip
 with_reducible refine bn [6,7,8,10,12,13,14,15,33,34,35,36,37,38,39,40,41,42,43,44,45,46,47,48,49,50,51] (fun q:List aJ × aJ=>[(12,.own E1 0 q.1.length 0 q.1.length),(10,.str q.2)]) (fun q=>[.vec E1 (q.1.map cS)]) (fun q=>q.1.length+q.2.length<=2 ^ 30/\q.1.length<=n.toNat/\E=oS m (n.toNat-q.1.length) q.1 q.2) (fun q=>n.toNat-q.1.length) (([],r)) ?_ ?_ ?_ ?_
 ·exact⟨by simp;omega,by simp,hE.symm⟩
 ·rfl
 ·exact at_
 rintro⟨out,r⟩ u ⟨g1,g2,g3⟩;dsimp only at g1 g2 g3;by_cases hn:(out.length:Int)<n
 ·obtain⟨k,hk⟩:∃ k,n.toNat-out.length=k+1:=⟨n.toNat-out.length-1,by omega⟩;rw[hk,oS]at g3;have h2:=nq r m (by omega);have hv:=jh r m;generalize cj r m=t at *;obtain⟨v,r2,e2⟩:=t;dsimp only at g3 hv;simp only[eS]at h2;by_cases he:e2=0
  ·rw[if_neg (by omega)]at g3;have hlt:=hv.2.2.1 he;repeat' first|simp (disch:=omega) only[go_sem,au,aA,aB,he]|refine aq ?_|refine aC h2 ?_|refine ak ?_ ?_<;>intro hw<;>try omega|fail
   all_goals first
    | exact aY
    | (refine ⟨(out ++ [v], r2), ?_, ?_, ?_, bJ, at_⟩
       ·have e:n.toNat-(out++[v]).length=k:=by simp;omega
        dsimp only;rw[e];exact⟨by simp;omega,by simp;omega,g3⟩
       ·simp;omega
       ·first|rfl|(simp[go_sem];done))
  ·rw[if_pos he]at g3;repeat' first|refine aq ?_|refine aC h2 ?_|refine ak ?_ ?_<;>intro hw<;>try omega|fail
   all_goals first|exact aY|(refine bq ?_;rw[g3];exact wJ)
 ·have:n.toNat-out.length=0:=by omega
  rw[this,oS]at g3;repeat' first|refine aq ?_|refine ak ?_ ?_<;>intro hw<;>try omega|fail
  refine bq ?_;rw[g3];exact aW.cons (View.vec rfl (by simp) (by simp) (GI _)) (aW.refl rfl)
def dQ(c:eH): List AV:=[I c.kind,.str c.table.name,.aK false EC (c.table.ins.map bE),.aK false EC (c.table.outs.map bE),I c.table.bA,I c.table.agg,.aK false ER (c.table.rules.map cN),.str c.name,I c.di,.aK false EV (c.row.map iJ),I c.kN,I c.lU]
def cC(c:eH): AV:= .agg (dQ c)
def Xa(c:eH): (cC c).dn=true:=by simp[cC,dQ]
attribute [simp] Xa
def r_(k:Int): Int:=if k=1 then 1 else if k=2 then 6 else if k=3 then 2 else if k=5 then 24 else if k=6 then 8 else 0
def Xb(k:Int): Bool:=decide (1<=k/\k<=9)
def D3(k:Int): ai Tryz.prog pI [I k] (.bX [I (r_ k),.bool (Xb k)]):=by
 have e0:¬(k=1\/k=2\/k=3\/k=5\/k=6)->r_ k=0:=fun h=>by simp only[not_or]at h;simp[r_,h]
 refine ai.aG (PV (by simp) ?_) rfl;unfold Gg aP;intro Q au aA aB;by_cases k1:k=1
 ·subst k1;repeat' first|refine aq ?_|refine ak ?_ ?_<;>intro hw<;>try omega|fail
  exact aT rfl rfl
 by_cases k2:k=2
 ·subst k2;repeat' first|refine aq ?_|refine ak ?_ ?_<;>intro hw<;>try omega|fail
  exact aT rfl rfl
 by_cases k3:k=3
 ·subst k3;repeat' first|refine aq ?_|refine ak ?_ ?_<;>intro hw<;>try omega|fail
  exact aT rfl rfl
 by_cases k5:k=5
 ·subst k5;repeat' first|refine aq ?_|refine ak ?_ ?_<;>intro hw<;>try omega|fail
  exact aT rfl rfl
 by_cases k6:k=6
 ·subst k6;repeat' first|refine aq ?_|refine ak ?_ ?_<;>intro hw<;>try omega|fail
  exact aT rfl rfl
 repeat' first|refine aq ?_|refine ak ?_ ?_<;>intro hw<;>try omega|fail
 all_goals first|exact aY|(refine aT ?_ rfl;rw[e0 (by omega)];simp[Xb];omega)
def SE(k:Int): (cU .and .i64 (r_ k) 1≠0↔k=1)/\(cU .and .i64 (r_ k) 2≠0↔k=2\/k=3)/\(cU .and .i64 (r_ k) 4≠0↔k=2)/\(cU .and .i64 (r_ k) 8≠0↔k=5\/k=6)/\(cU .and .i64 (r_ k) 16≠0↔k=5):=by
 rw[kf];by_cases k1:k=1
 ·subst k1;decide +kernel
 by_cases k2:k=2
 ·subst k2;decide +kernel
 by_cases k3:k=3
 ·subst k3;decide +kernel
 by_cases k5:k=5
 ·subst k5;decide +kernel
 by_cases k6:k=6
 ·subst k6;decide +kernel
 have e:r_ k=0:=by simp[r_, *]
 have z:∀ d ∈ [(1:Int),2,4,8,16],nI .and .i64 0 d=0:=by decide +kernel
 rw[e,z 1 (by simp),z 2 (by simp),z 4 (by simp),z 8 (by simp),z 16 (by simp)];simp[k1,k2,k3,k5,k6]
noncomputable def hasB (b1 b2 b3 b4 b5:Bool):Int :=
 let p1:=if b1 then 0 else cU .or .i64 0 1
 let p2:=if b2 then p1 else cU .or .i64 p1 2
 let p3:=if b3 then p2 else cU .or .i64 p2 4
 let p4:=if b4 then p3 else cU .or .i64 p3 8
 if b5 then p4 else cU .or .i64 p4 16
noncomputable def SG (c:eH):Int:=hasB (iX c.table bM) (c.name==[] && decide (c.di=0)) (decide (c.row.length=0)) (decide (c.kN=0)) (decide (c.lU=0))
def aeW(c:eH): cU .andNot .i64 (SG c) (r_ c.kind)≠0↔tP c=false:=by
 unfold SG tP;generalize iX c.table bM=b1;generalize (c.name==[] && decide (c.di=0))=b2;generalize decide (c.row.length=0)=b3;generalize decide (c.kN=0)=b4;generalize decide (c.lU=0)=b5;generalize c.kind=k;unfold hasB;rw[kf];by_cases k1:k=1
 ·subst k1;revert b1 b2 b3 b4 b5;decide +kernel
 by_cases k2:k=2
 ·subst k2;revert b1 b2 b3 b4 b5;decide +kernel
 by_cases k3:k=3
 ·subst k3;revert b1 b2 b3 b4 b5;decide +kernel
 by_cases k5:k=5
 ·subst k5;revert b1 b2 b3 b4 b5;decide +kernel
 by_cases k6:k=6
 ·subst k6;revert b1 b2 b3 b4 b5;decide +kernel
 have e:r_ k=0:=by simp[r_, *]
 have hd:∀ p:Prop,[Decidable p]->¬p->decide p=false:=fun p _ h=>by simp[h]
 rw[e,hd _ k1,hd (k=2\/k=3) (by omega),hd _ k2,hd (k=5\/k=6) (by omega),hd _ k5];revert b1 b2 b3 b4 b5;decide +kernel
set_option maxHeartbeats 4000000 in
def Yp(c:eH)(ok:jo c): ai Tryz.prog AE [cC c] (I (SG c)):=by
 have c1:=FF c.table bM (Ao ok.2.1) Sw;obtain⟨E,hE⟩:∃ E,SG c=E:=⟨_,rfl⟩;rw[hE];unfold SG at hE;have hl:=ok.2.2.2.2.1.1;obtain⟨k,t,n,v,r,f,m⟩:=c;dsimp only at c1 hE hl;generalize iX t bM=b1 at *;have hb2:(n==[] && decide (v=0))=decide (n=[]/\v=0):=by cases n<;>simp
 rw[hb2]at hE;unfold hasB at hE;have d2:n=[]->v=0->decide (n=[]/\v=0)=true:=fun h1 h2=>by simp[h1,h2]
 have d2n:¬n=[]->decide (n=[]/\v=0)=false:=fun h1=>by simp[h1]
 have d2v:¬v=0->decide (n=[]/\v=0)=false:=fun h1=>by simp[h1]
 have d3:r.length=0->decide (r.length=0)=true:=fun h=>decide_eq_true h;have d3n:¬r.length=0->decide (r.length=0)=false:=fun h=>decide_eq_false h;have d4:f=0->decide (f=0)=true:=fun h=>decide_eq_true h;have d4n:¬f=0->decide (f=0)=false:=fun h=>decide_eq_false h;have d5:m=0->decide (m=0)=true:=fun h=>decide_eq_true h;have d5n:¬m=0->decide (m=0)=false:=fun h=>decide_eq_false h;simp only[bS,dy,bB,cW,bM,bt]at c1;refine ai.aG (RQ (by simp) ?_) (by simp);unfold IY aP;intro Q au aA aB;simp only[cC,dQ];cases b1
 all_goals
  repeat' first|refine aq ?_|refine qo c1 ?_|refine ak ?_ ?_<;>intro hw<;>try omega|fail
 all_goals first|exact aY|(refine aM ?_ rfl;rw[<-hE];(first|rw[d2 (by assumption) (by assumption)]|rw[d2n (by assumption)]|rw[d2v (by assumption)]);(first|rw[d3 (by omega)]|rw[d3n (by omega)]);(first|rw[d4 (by assumption)]|rw[d4n (by assumption)]);(first|rw[d5 (by assumption)]|rw[d5n (by assumption)]);rfl)
def JG(n:Int): ai Tryz.prog sk [I n] (.bool (mK n)):=by
 unfold mK;refine ai.aG (Oj (by simp) ?_) rfl;unfold ED aP;intro Q au aA aB;repeat' first|refine aq ?_|refine ak ?_ ?_<;>intro hw<;>try omega|fail
 all_goals (refine aM ?_ rfl;simp;omega)
def L9(n:Int): ai Tryz.prog tY [I n] (.bool (mK n)):=by
 unfold mK;refine ai.aG (PY (by simp) ?_) rfl;unfold Gn aP;intro Q au aA aB;repeat' first|refine aq ?_|refine ak ?_ ?_<;>intro hw<;>try omega|fail
 all_goals (refine aM ?_ rfl;simp;omega)
def Rl(v:eg)(h:jG v.n): ai Tryz.prog pA [iJ v] (.bool (!bL v)):=by
 have c1:=nc v.kind v.n v.s h.1 h.2;have ev:bL ⟨v.kind,v.n,v.s⟩=bL v:=rfl;rw[ev]at c1;generalize bL v=b at *;refine ai.aG (KD (by simp) ?_) (by simp);unfold Bw aP;intro Q au aA aB;cases b<;>simp only[mX,if_true,Bool.false_eq_true,if_false]at c1
 all_goals
  repeat' first|refine aq ?_|refine aC c1 ?_|refine ak ?_ ?_<;>intro hw<;>try omega|fail
 all_goals exact aM rfl rfl
def FQ (fn : FuncId) (cap : List AV) (hcap : AV.cy cap = true) (p : eg -> Bool) (l : List eg) (h : ∀ k, k < l.length -> ai Tryz.prog fn (iJ (l.getD k default) :: cap) (.bool (p (l.getD k default)))) (hl : l.length <= 2 ^ 62) :
    ai Tryz.prog ny [cH l,.fn (.func fn) [] cap] (I (jI p l)):=by
 refine ai.aG (BW (by simp) ?_) (by simp[AV.dn,AV.cy,hcap]);unfold sZ aP;intro Q au aA aB;repeat' first|refine aq ?_|refine ak ?_ ?_<;>intro hw<;>try omega|fail
 with_reducible refine bn [4,5,8,9,10,11,12,13,14,15,16,17,18] (fun i:Nat=>[(8,I i)]) (fun _=>[]) (fun i=>i<=l.length/\ ∀ k,k<i->p (l.getD k default)=false) (fun i=>l.length-i) (0) ?_ ?_ ?_ ?_
 ·simp
 ·rfl
 ·exact at_
 ·rintro i r ⟨hi,hp⟩;by_cases hin:i<l.length
  ·have hx:=h i hin;simp only[iJ]at hx;repeat' first|refine aq ?_|refine aC hx ?_|refine ak ?_ ?_<;>intro hw<;>try omega|fail
   ·refine aM ?_ rfl;refine congrArg I ?_;exact(pR hin hp hw).symm
   ·refine⟨i+1,?_,?_,by first|rfl|(simp[go_sem];done),bJ,at_⟩<;>(try dsimp only)
    ·exact⟨by omega,bf hp hw⟩
    ·omega
  ·repeat' first|refine aq ?_|refine ak ?_ ?_<;>intro hw<;>try omega|fail
   refine aM ?_ rfl;refine congrArg I ?_;exact(oN fun k hk=>hp k (by omega)).symm
def Ci (fn : FuncId) (cap : List AV) (hcap : AV.cy cap = true) (p : eg -> Bool) (l : List eg) (h : ∀ k, k < l.length -> ai Tryz.prog fn (iJ (l.getD k default) :: cap) (.bool (p (l.getD k default)))) (hl : l.length <= 2 ^ 62) :
    ai Tryz.prog lO [cH l,.fn (.func fn) [] cap] (.bool (l.any p)):=by
 refine ai.aG (y_ (by simp) ?_) (by simp[AV.dn,AV.cy,hcap]);unfold qg aP;intro Q au aA aB;have hc:=FQ fn cap hcap p l h hl;simp only[cH]at hc;repeat' first|refine aq ?_|refine aC hc ?_|refine ak ?_ ?_<;>intro hw<;>try omega|fail
 all_goals refine aM ?_ rfl
 all_goals rw[<-HV]
def UN(l:List eg)(hl:yl l): ai Tryz.prog xk [cH l] (.bool (decide (l.length<=6) && l.all bL)):=by
 obtain⟨hl1,pX⟩:=hl;have c1:=Ci pA [] rfl (fun v=> !bL v) l (fun k hk=>Rl _ (pX _ (a_ hk)).1) (by omega);have e:l.any (fun v=> !bL v) = !(l.all bL):=by rw[List.all_eq_not_any_not];simp
 rw[e]at c1;generalize l.all bL=b at *;simp only[cH]at c1 ⊢;refine ai.aG (Ol (by simp) ?_) (by simp);unfold EE aP;intro Q au aA aB;repeat' first|refine aq ?_|refine aC c1 ?_|refine ak ?_ ?_<;>intro hw<;>try omega|fail
 all_goals (refine aM ?_ rfl;simp;try omega)
def Xc(a b:eH)(ha:jo a)(hb:jo b): ai Tryz.prog yV [cC a,cC b] (.bool (j3 a b)):=by
 have c1:=FF a.table b.table (Ao ha.2.1) (Ao hb.2.1);have c2:=Ai a.row b.row (by have:=ha.2.2.2.2.1.1;omega) (by have:=hb.2.2.2.2.1.1;omega);obtain⟨E,hE⟩:∃ E,j3 a b=E:=⟨_,rfl⟩;rw[hE];unfold j3 at hE;generalize iX a.table b.table=x at *;generalize gx (fun x y=>x==y) a.row b.row=y at *;have hn:(a.name==b.name)=decide (a.name=b.name):=by rw[aV];simp
 rw[hn]at hE;clear hn;simp only[bS,dy,bB,cW,cH]at c1 c2;refine ai.aG (PO (by simp) ?_) (by simp);unfold F8 aP;intro Q au aA aB;simp only[cC,dQ];repeat' first|refine aq ?_|refine aC c1 ?_|refine aC c2 ?_|refine ak ?_ ?_<;>intro hw<;>try omega|fail
 all_goals (refine aM ?_ rfl;rw[<-hE];first|(simp[*];done)|(refine congrArg AV.bool ?_;rw[aV];simp[*];done))
def qR(a b:eH)(ha:jo a)(hb:jo b): ai Tryz.prog kj [cC a,cC b] (.bool (j3 a b)):=by
 have c1:=Q0 a.table b.table (Ao ha.2.1) (Ao hb.2.1);have c2:=Jy a.row b.row (by have:=ha.2.2.2.2.1.1;omega) (by have:=hb.2.2.2.2.1.1;omega);obtain⟨E,hE⟩:∃ E,j3 a b=E:=⟨_,rfl⟩;rw[hE];unfold j3 at hE;generalize iX a.table b.table=x at *;generalize gx (fun x y=>x==y) a.row b.row=y at *;have hn:(a.name==b.name)=decide (a.name=b.name):=by rw[aV];simp
 rw[hn]at hE;clear hn;simp only[bS,dy,bB,cW,cH]at c1 c2;refine ai.aG (Ua (by simp) ?_) (by simp);unfold Kr aP;intro Q au aA aB;simp only[cC,dQ];repeat' first|refine aq ?_|refine aC c1 ?_|refine aC c2 ?_|refine ak ?_ ?_<;>intro hw<;>try omega|fail
 all_goals (refine aM ?_ rfl;rw[<-hE];first|(simp[*];done)|(refine congrArg AV.bool ?_;rw[aV];simp[*];done))
def iG {σ : aj} {c : eH} {a b r w : AV} (ha : View σ a (.aK false EC (c.table.ins.map bE))) (hb : View σ b (.aK false EC (c.table.outs.map bE))) (hr : View σ r (.aK false ER (c.table.rules.map cN))) (hw : View σ w (.aK false EV (c.row.map iJ))) :
    View σ (.agg [I c.kind,.str c.table.name,a,b,I c.table.bA,I c.table.agg,r,.str c.name,I c.di,w,I c.kN,I c.lU]) (cC c) :=
 View.nU (.cons (.refl _ rfl) (.cons (.refl _ rfl) (.cons ha (.cons hb (.cons (.refl _ rfl) (.cons (.refl _ rfl) (.cons hr (.cons (.refl _ rfl) (.cons (.refl _ rfl) (.cons hw (.cons (.refl _ rfl) (.cons (.refl _ rfl) (.nil _)))))))))))))
def rD{σ : aj}{f:Bool}{el:El}{l:List AV}(h:AV.cy l=true): View σ (.aK f el l) (.aK f el l):= .refl _ (by simp[AV.dn,h])
def Yq(c:eH): ai Tryz.prog AK [cC c] (cC (ym c)):=by
 obtain⟨D,hD⟩:∃ D,ym c=D:=⟨_,rfl⟩;rw[hD];unfold ym at hD;refine ai.aG (RU (by simp) ?_) (by simp);unfold I3 aP;intro Q au aA aB;simp only[cC,dQ];by_cases k1:c.kind=1
 ·have L_:D=⟨1,c.table,[],0,[],0,0⟩:=by rw[<-hD];simp[k1]
  repeat' first|simp (disch:=omega) only[go_sem,au,aA,aB,k1]|refine aq ?_|refine ak ?_ ?_<;>intro hw<;>try omega|fail
  all_goals (rw[L_];exact⟨_,rfl,iG (c:=⟨1,c.table,[],0,[],0,0⟩) (rD (tf _)) (rD (tf _)) (rD (Ae _)) (.ae _)⟩)
 by_cases k2:c.kind=2
 ·have L_:D=⟨2,bM,c.name,c.di,c.row,0,0⟩:=by rw[<-hD];simp[k2]
  repeat' first|simp (disch:=omega) only[go_sem,au,aA,aB,k2]|refine aq ?_|refine ak ?_ ?_<;>intro hw<;>try omega|fail
  all_goals (rw[L_];exact⟨_,rfl,iG (c:=⟨2,bM,c.name,c.di,c.row,0,0⟩) (.ae _) (.ae _) (.ae _) (rD (GH _))⟩)
 by_cases k3:c.kind=3
 ·have L_:D=⟨3,bM,c.name,c.di,[],0,0⟩:=by rw[<-hD];simp[k3]
  repeat' first|simp (disch:=omega) only[go_sem,au,aA,aB,k3]|refine aq ?_|refine ak ?_ ?_<;>intro hw<;>try omega|fail
  all_goals (rw[L_];exact⟨_,rfl,iG (c:=⟨3,bM,c.name,c.di,[],0,0⟩) (.ae _) (.ae _) (.ae _) (.ae _)⟩)
 by_cases k5:c.kind=5
 ·have L_:D=⟨5,bM,[],0,[],c.kN,c.lU⟩:=by rw[<-hD];simp[k5]
  repeat' first|simp (disch:=omega) only[go_sem,au,aA,aB,k5]|refine aq ?_|refine ak ?_ ?_<;>intro hw<;>try omega|fail
  all_goals (rw[L_];exact⟨_,rfl,iG (c:=⟨5,bM,[],0,[],c.kN,c.lU⟩) (.ae _) (.ae _) (.ae _) (.ae _)⟩)
 by_cases k6:c.kind=6
 ·have L_:D=⟨6,bM,[],0,[],c.kN,0⟩:=by rw[<-hD];simp[k6]
  repeat' first|simp (disch:=omega) only[go_sem,au,aA,aB,k6]|refine aq ?_|refine ak ?_ ?_<;>intro hw<;>try omega|fail
  all_goals (rw[L_];exact⟨_,rfl,iG (c:=⟨6,bM,[],0,[],c.kN,0⟩) (.ae _) (.ae _) (.ae _) (.ae _)⟩)
 have L_:D=⟨c.kind,bM,[],0,[],0,0⟩:=by rw[<-hD];simp[k1,k2,k3,k5,k6]
 repeat' first|refine aq ?_|refine ak ?_ ?_<;>intro hw<;>try omega|fail
 all_goals first|exact aY|(rw[L_];exact⟨_,rfl,iG (c:=⟨c.kind,bM,[],0,[],0,0⟩) (.ae _) (.ae _) (.ae _) (.ae _)⟩)
def adW{c:eH}(h:jo c): jo (ym c):=by
 obtain⟨h1,h2,h3,h4,h5,h6,h7⟩:=h;have v0:yl []:=⟨by decide,fun c hc=>(by cases hc)⟩;have n0:([]:aJ).length<=2 ^ 30:=by decide
 unfold ym;refine⟨h1,?_,?_,?_,?_,?_,?_⟩<;>dsimp only<;>split;all_goals first|assumption|exact rU|exact FL
def SH(k e:Int)(q nm:Bool)(v:Int)(pf pc pl:Bool): Int:=if k=1/\e≠0 then e else if 1<=k/\k<=9/\q=true/\((k=2\/k=3)->nm=true/\0<=v/\v<=2147483648)/\pf=true/\pc=true/\pl=true then 0 else 2
def TM(c:eH): cY c=SH c.kind (ez c.table).2 (tP c) (gE c.name) c.di (mK c.kN) (mK c.lU) (decide (c.row.length<=6) && c.row.all bL):=by
 unfold cY SH;simp only[aF,decide_eq_true_eq]
set_option maxHeartbeats 4000000 in
def oA(c:eH)(ok:jo c): ai Tryz.prog ju [cC c] (I (cY c)):=by
 rw[TM];have c1:=D3 c.kind;have c2:=DZ c.table ok.2.1;have c3:=Yp c ok;have c4:=DG c.name (by have:=ok.2.2.1;omega);have c5:=JG c.kN;have c6:=JG c.lU;have c7:=UN c.row ok.2.2.2.2.1;have hh:=aeW c;have h2:=(SE c.kind).2.1
 have h1:r_ c.kind=1↔c.kind=1:=by
  unfold r_;repeat' split
  all_goals omega
 have ho:Xb c.kind=true↔(1<=c.kind/\c.kind<=9):=by simp[Xb]
 generalize r_ c.kind=p at *;generalize Xb c.kind=o at *;generalize SG c=s at *;generalize tP c=q at *;obtain⟨w,e1⟩:∃ w,cU .andNot .i64 s p=w:=⟨_,rfl⟩;obtain⟨u,e2⟩:∃ u,cU .and .i64 p 2=u:=⟨_,rfl⟩;rw[e1]at hh;rw[e2]at h2;generalize ez c.table=B at *;obtain⟨bs,be⟩:=B;generalize gE c.name=nm at *;generalize mK c.kN=pf at *;generalize mK c.lU=pc at *;generalize (decide (c.row.length<=6) && c.row.all bL)=pl at *;obtain⟨E,hE⟩:∃ E,SH c.kind be q nm c.di pf pc pl=E:=⟨_,rfl⟩;dsimp only;rw[hE];unfold SH at hE;simp only[eB,bS,dy,bB,cW,cH,cC,dQ]at c2 c3 c7 ⊢;refine ai.aG (Ob (by simp) ?_) (by simp[cC,dQ]);unfold Ev aP;intro Q au aA aB;repeat' first|simp (disch:=omega) only[go_sem,au,aA,aB,e1,e2]|refine aq ?_|refine aC c1 ?_|refine aC c2 ?_|refine aC c3 ?_|refine aC c4 ?_|refine aC c5 ?_|refine aC c6 ?_|refine aC c7 ?_|refine ak ?_ ?_<;>intro hw<;>try omega|fail
 all_goals first
  | exact aY
  | (refine aM ?_ rfl
     refine congrArg I ?_;rw[<-hE];clear hE au aA aB c1 c2 c3 c4 c5 c6 c7 ok e1 e2;split
     ·first|omega|(simp_all;done)
     ·split
      ·first|rfl|(exfalso;simp_all;done)|(exfalso;simp_all;omega)
      ·first|rfl|(exfalso;simp_all;done)|(exfalso;simp_all;omega))
  | trace_state
set_option maxHeartbeats 4000000 in
def Yr(c:eH)(ok:jo c): ai Tryz.prog AD [cC c] (I (cY c)):=by
 rw[TM];have c1:=Yq c;have c2:=FO c.table ok.2.1;have c3:=qR c (ym c) ok (adW ok);rw[Yd]at c3;have c4:=x7 c.name (by have:=ok.2.2.1;omega);have c5:=L9 c.kN;have c6:=L9 c.lU;have c7:=SA c.row ok.2.2.2.2.1;generalize cC (ym c)=A at *;generalize tP c=q at *;generalize ez c.table=B at *;obtain⟨bs,be⟩:=B;generalize gE c.name=nm at *;generalize mK c.kN=pf at *;generalize mK c.lU=pc at *;generalize c.row.all bL=pl at *;have hl:=ok.2.2.2.2.1.1;obtain⟨E,hE⟩:∃ E,SH c.kind be q nm c.di pf pc (decide (c.row.length<=6) && pl)=E:=⟨_,rfl⟩;dsimp only;rw[hE];unfold SH at hE;simp only[eB,bS,dy,bB,cW,cH,cC,dQ]at c1 c2 c3 c7 ⊢;refine ai.aG (RP (by simp) ?_) (by simp[cC,dQ]);unfold IX aP;intro Q au aA aB;repeat' first|refine aq ?_|refine aC c1 ?_|refine aC c2 ?_|refine aC c3 ?_|refine aC c4 ?_|refine aC c5 ?_|refine aC c6 ?_|refine aC c7 ?_|refine ak ?_ ?_<;>intro hw<;>try omega|fail
 all_goals first
  | exact aY
  | (refine aM ?_ rfl
     refine congrArg I ?_;rw[<-hE];clear hE au aA aB c1 c2 c3 c4 c5 c6 c7 ok;split
     ·first|omega|(simp_all;done)
     ·split
      ·first|rfl|(exfalso;simp_all;done)|(exfalso;simp_all;omega)
      ·first|rfl|(exfalso;simp_all;done)|(exfalso;simp_all;omega))
  | trace_state
def Rm (c : eH) : (c.kind = 1 -> gJ c = cG c.kind ++ bC (ez c.table).1) /\ (c.kind = 2 -> gJ c = cG c.kind ++ (bC c.name ++ cG c.di ++ mY c.row)) /\ (c.kind = 3 -> gJ c = cG c.kind ++ (bC c.name ++ cG c.di)) /\
    (c.kind=5->gJ c=cG c.kind++(cG c.kN++cG c.lU))/\(c.kind=6->gJ c=cG c.kind++cG c.kN)/\(¬(c.kind=1\/c.kind=2\/c.kind=3\/c.kind=5\/c.kind=6)->gJ c=cG c.kind):=by
 unfold gJ;refine⟨fun h=>?_,fun h=>?_,fun h=>?_,fun h=>?_,fun h=>?_,fun h=>?_⟩
 ·rw[if_pos h]
 ·rw[if_neg (by omega),if_pos h]
 ·rw[if_neg (by omega),if_neg (by omega),if_pos h]
 ·rw[if_neg (by omega),if_neg (by omega),if_neg (by omega),if_pos h]
 ·rw[if_neg (by omega),if_neg (by omega),if_neg (by omega),if_neg (by omega),if_pos h]
 ·rw[if_neg (by omega),if_neg (by omega),if_neg (by omega),if_neg (by omega),if_neg (by omega),List.append_nil]
def qa{a b:Nat}(h:a+b<=2 ^ 40): ((a+b:Nat):Int)<=IntKind.i64.max:=by show _<=(9223372036854775807:Int);omega
set_option maxHeartbeats 4000000 in
def oB(c:eH)(ok:jo c): ai Tryz.prog jt [cC c] (eB (dW c)):=by
 have c1:=oA c ok;unfold dW;by_cases h0:cY c≠0
 ·rw[if_pos h0];generalize cY c=e at *;simp only[eB,cC,dQ]at c1 ⊢;refine ai.aG (Dc (by simp) ?_) (by simp[cC,dQ]);unfold xI aP;intro Q au aA aB;repeat' first|refine aq ?_|refine aC c1 ?_|refine ak ?_ ?_<;>intro hw<;>try omega|fail
  all_goals first|exact aY|exact aT rfl rfl
 rw[if_neg h0];obtain⟨z1,z2,z3,z4,z5,z6,z7,z8,z9⟩:=rT (c:=c) (by omega);rw[show cY c=0 by omega]at c1;obtain⟨s1,s2,s3,s5,s6,s0⟩:=Rm c;obtain⟨S,hS⟩:∃ S,gJ c=S:=⟨_,rfl⟩;rw[hS]at s1 s2 s3 s5 s6 s0 ⊢;clear hS;have hnm:c.name.length<=2 ^ 30:=ok.2.2.1;have c2:=D3 c.kind;have c3:=jw c.kind ⟨by omega,by omega⟩;have c4:=DZ c.table ok.2.1;have ht:=Ce c.table;have c5:=qO (ez c.table).1 (by omega);have c6:=qO c.name (by omega);have c7:=jw c.di ok.2.2.2.1;have c8:=TG c.row ok.2.2.2.2.1;have hrow:O9 c.row=(mY c.row,0):=by unfold O9;rw[if_pos z9]
 rw[hrow]at c8;have c9:=jw c.kN (uu z6);have ca:=jw c.lU (uu z7);obtain⟨u1,u2,u4,u8,u16⟩:=SE c.kind;have l1:=cM c.kind;have l2:=jz (ez c.table).1;have l3:=jz c.name;have l4:=cM c.di;have l5:=Ix (l:=c.row) (by omega) (fun v hv=>bx.1 z9 v hv);have l6:=cM c.kN;have l7:=cM c.lU;generalize r_ c.kind=p at *;generalize Xb c.kind=o at *;generalize cG c.kind=x at *;generalize ez c.table=B at *;obtain⟨bs,be⟩:=B;dsimp only at c5 ht l2 s1 z1;generalize bC bs=z at *;generalize bC c.name=n at *;generalize cG c.di=v at *;generalize mY c.row=w at *;generalize cG c.kN=f at *;generalize cG c.lU=m at *;obtain⟨b1,e1⟩:∃ u,cU .and .i64 p 1=u:=⟨_,rfl⟩;obtain⟨b2,e2⟩:∃ u,cU .and .i64 p 2=u:=⟨_,rfl⟩;obtain⟨b4,e4⟩:∃ u,cU .and .i64 p 4=u:=⟨_,rfl⟩;obtain⟨b8,e8⟩:∃ u,cU .and .i64 p 8=u:=⟨_,rfl⟩;obtain⟨b16,e16⟩:∃ u,cU .and .i64 p 16=u:=⟨_,rfl⟩;rw[e1]at u1;rw[e2]at u2;rw[e4]at u4;rw[e8]at u8;rw[e16]at u16;have a1:=qa (a:=x.length) (b:=z.length) (by omega);have a2:=qa (a:=n.length) (b:=v.length) (by omega);have a3:=qa (a:=x.length) (b:=n.length+v.length) (by omega);have a4:=qa (a:=x.length+(n.length+v.length)) (b:=w.length) (by omega);have a5:=qa (a:=x.length) (b:=f.length) (by omega);have a6:=qa (a:=x.length+f.length) (b:=m.length) (by omega);simp only[eB,bS,dy,bB,cW,cH,cC,dQ]at c1 c4 c8 ⊢;refine ai.aG (Dc (by simp) ?_) (by simp[cC,dQ]);unfold xI aP;intro Q au aA aB;repeat' first|simp (disch:=omega) only[go_sem,au,aA,aB,e1,e2,e4,e8,e16]|refine aq ?_|refine aC c1 ?_|refine aC c2 ?_|refine aC c3 ?_|refine aC c4 ?_|refine aC c5 ?_|refine aC c6 ?_|refine aC c7 ?_|refine aC c8 ?_|refine aC c9 ?_|refine aC ca ?_|refine ak ?_ ?_<;>intro hw<;>try omega|fail
 all_goals first
  | exact aY
  | (refine aT ?_ rfl
     first
      |(rw[s1 (by omega)];done)
      |(rw[s2 (by omega)];first|done|(simp;done))
      |(rw[s3 (by omega)];first|done|(simp;done))
      |(rw[s5 (by omega)];first|done|(simp;done))
      |(rw[s6 (by omega)];first|done|(simp;done))
      |(rw[s0 (by omega)];done))
  | trace_state
set_option maxHeartbeats 4000000 in
def aa1(c:eH)(ok:jo c)(h0:cY c=0): ai Tryz.prog CQ [cC c] (.str (gJ c)):=by
 obtain⟨z1,z2,z3,z4,z5,z6,z7,z8,z9⟩:=rT h0;obtain⟨s1,s2,s3,s5,s6,s0⟩:=Rm c;obtain⟨S,hS⟩:∃ S,gJ c=S:=⟨_,rfl⟩;rw[hS]at s1 s2 s3 s5 s6 s0 ⊢;clear hS;have hnm:c.name.length<=2 ^ 30:=ok.2.2.1;have c3:=jx c.kind ⟨by omega,by omega⟩;have c4:=FO c.table ok.2.1;have ht:=Ce c.table;have c5:=oT (ez c.table).1 (by omega);have c6:=oT c.name (by omega);have c7:=jx c.di ok.2.2.2.1;have c8:=TH c.row ok.2.2.2.2.1 z9;have c9:=jx c.kN (uu z6);have ca:=jx c.lU (uu z7);have l1:=cM c.kind;have l2:=jz (ez c.table).1;have l3:=jz c.name;have l4:=cM c.di;have l5:=Ix (l:=c.row) (by omega) (fun v hv=>bx.1 z9 v hv);have l6:=cM c.kN;have l7:=cM c.lU;generalize cG c.kind=x at *;generalize ez c.table=B at *;obtain⟨bs,be⟩:=B;dsimp only at c5 ht l2 s1 z1;generalize bC bs=z at *;generalize bC c.name=n at *;generalize cG c.di=v at *;generalize mY c.row=w at *;generalize cG c.kN=f at *;generalize cG c.lU=m at *;have a1:=qa (a:=x.length) (b:=z.length) (by omega);have a2:=qa (a:=x.length) (b:=n.length) (by omega);have a3:=qa (a:=x.length+n.length) (b:=v.length) (by omega);have a4:=qa (a:=x.length+n.length+v.length) (b:=w.length) (by omega);have a5:=qa (a:=x.length) (b:=f.length) (by omega);have a6:=qa (a:=x.length+f.length) (b:=m.length) (by omega);simp only[eB,bS,dy,bB,cW,cH,cC,dQ]at c4 c8 ⊢;refine ai.aG (Ud (by simp) ?_) (by simp[cC,dQ]);unfold Kv aP;intro Q au aA aB;repeat' first|refine aq ?_|refine aC c3 ?_|refine aC c4 ?_|refine aC c5 ?_|refine aC c6 ?_|refine aC c7 ?_|refine aC c8 ?_|refine aC c9 ?_|refine aC ca ?_|refine ak ?_ ?_<;>intro hw<;>try omega|fail
 all_goals first
  | exact aY
  | (refine aM ?_ rfl
     first
      |(rw[s1 (by omega)];done)
      |(rw[s2 (by omega)];first|done|(simp;done))
      |(rw[s3 (by omega)];first|done|(simp;done))
      |(rw[s5 (by omega)];first|done|(simp;done))
      |(rw[s6 (by omega)];first|done|(simp;done))
      |(rw[s0 (by omega)];done))
  | trace_state
def FR(c:eH)(ok:jo c): ai Tryz.prog qV [cC c] (eB (dW c)):=by
 have c1:=Yr c ok;unfold dW;by_cases h0:cY c≠0
 ·rw[if_pos h0];generalize cY c=e at *;simp only[eB,cC,dQ]at c1 ⊢;refine ai.aG (F7 (by simp) ?_) (by simp[cC,dQ]);unfold A7 aP;intro Q au aA aB;repeat' first|refine aq ?_|refine aC c1 ?_|refine ak ?_ ?_<;>intro hw<;>try omega|fail
  all_goals first|exact aY|exact aT rfl rfl
 rw[if_neg h0];rw[show cY c=0 by omega]at c1;have c2:=aa1 c ok (by omega);generalize gJ c=S at *;simp only[eB,cC,dQ]at c1 c2 ⊢;refine ai.aG (F7 (by simp) ?_) (by simp[cC,dQ]);unfold A7 aP;intro Q au aA aB;repeat' first|refine aq ?_|refine aC c1 ?_|refine aC c2 ?_|refine ak ?_ ?_<;>intro hw<;>try omega|fail
 all_goals first|exact aY|exact aT rfl rfl
end Go.Proofs.YtmbgnaoilncbnaaGreatDoor
