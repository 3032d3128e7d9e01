/- Part. -/
import Derived.Test.YtmbgnaoilncbnaaGreatDoorX06
set_option linter.all false
namespace Go.AM
def J9(g:aO)(w:World)(σ : aj)(a:Act)(dst:Option Tmp)(K:AV->aj->Prop)(a':Act)(w':World): Prop :=
 ∃ v g' av σ',a'=a.put dst v/\Rel g' w' σ'/\gN σ g w σ' g' w'/\VR g' w' av v/\K av σ'
def PB(g:aO)(w:World)(σ : aj)(a:Act)(Kp:AV->aj->Prop)(ex:Exit)(a':Act)(w':World): Prop :=
 a'=a/\ ∃ v g' av σ',ex = .panic [{ v,recovered:=false }]/\Rel g' w' σ'/\gN σ g w σ' g' w'/\VR g' w' av v/\Kp av σ'
abbrev WF(ro:Option Nat): Fence:= { Fence.wide with round:=ro }
def RC(ro:Option Nat)(n:Nat): (WF ro).room n:=fun _ h=>by simp[WF,Fence.wide]at h
def RE{ro:Option Nat}{n:Nat}{P:Program}{f:FuncId}{args:Array Value}{w:World}{R:Ending->World->Prop}: CallsIn (WF ro) n P f args w R↔Calls P f args w R:=callsIn_wide (n:=n)
def Hj(o:Oper): Prop:= ∀ c,o.op≠ .defer c
section
variable {P:Program} {g:aO} {w:World} {σ : aj} {K Kp:AV->aj->Prop} {ro:Option Nat} {wn:Nat}
def uU{o:Oper}{a:Act}{next:Act->World->Prop}{Q:Exit->Act->World->Prop}(ia:Hj o)(h:o.uponIn (WF ro) wn P a next Q ((execOp a.eval o).run P w)): o.wpIn (WF ro) wn P a w next Q:=by
 refine⟨fun _ _=>trivial,?_⟩;rw[Oper.semAt_eq _ _ _ ia];exact h
def oU{o:Oper}{a:Act}{v:Value}{w':World}{next:Act->World->Prop}{Q:Exit->Act->World->Prop}(ia:Hj o)(h:(execOp a.eval o).run P w = .ok (.value v) w')(hn:next (a.put o.dst v) w'): o.wpIn (WF ro) wn P a w next Q:=by
 refine uU ia ?_;rw[h];exact hn
def eu{o:Oper}{a:Act}{s:Sem Value}{Q:Exit->Act->World->Prop}(ia:Hj o)(h:bQ P s g w σ K)(hs:execOp a.eval o=(do pure (.value (← s)):Sem Next)): o.wpIn (WF ro) wn P a w (J9 g w σ a o.dst K) Q:=by
 obtain⟨v,w',g',av,σ',h1,h2,h3,h4,h5⟩:=h;refine oU ia (v:=v) (w':=w') ?_ ⟨v,g',av,σ',rfl,h2,h3,h4,h5⟩;rw[hs];simp[h1]
def zO{o:Oper}{a:Act}{v:Value}{av:AV}{Q:Exit->Act->World->Prop}(ia:Hj o)(hR:Rel g w σ)(hs:(execOp a.eval o).run P w = .ok (.value v) w)(hv:VR g w av v)(hk:K av σ): o.wpIn (WF ro) wn P a w (J9 g w σ a o.dst K) Q :=
 oU ia hs ⟨v,g,av,σ,rfl,hR,.refl _ _ _,hv,hk⟩
def Ek{nt:Nat}{x:Option Operand}{ax:Option AX}{e:Env}{a:Act}(h:YA nt x=some ax)(hE:gj nt g w e a.tmps): CB g w (ax.map (AX.ev e)) (x.map a.eval):=by
 cases x with
 | none=>cases h;trivial
 | some x =>
   simp only[YA,aU]at h;obtain⟨b,h1,rfl⟩:=h;exact cL h1 hE
def yP {nt : Nat} {xs : Array Operand} {az : List AX} {e : Env} {a : Act} (h : J0 nt xs.toList = some az) (hE : gj nt g w e a.tmps) :
    (az.map (AX.ev e)).length=(xs.map a.eval).size/\ ∀ i,i<(az.map (AX.ev e)).length->VR g w ((az.map (AX.ev e)).getD i .undef) ((xs.map a.eval).getD i Go.undef):=by
 obtain⟨h1,h2⟩:=aef h hE;refine⟨by simp[h1],fun i hi=>?_⟩;have:=h2 i (by simpa using hi);simpa using this
def BO {az bs : List AV} {us vs : Array Value} (h1 : az.length = us.size) (h2 : ∀ i, i < az.length -> VR g w (az.getD i .undef) (us.getD i Go.undef)) (h3 : bs.length = vs.size) (h4 : ∀ i, i < bs.length -> VR g w (bs.getD i .undef) (vs.getD i Go.undef)) :
    (az++bs).length=(us++vs).size/\ ∀ i,i<(az++bs).length->VR g w ((az++bs).getD i .undef) ((us++vs).getD i Go.undef):=by
 refine⟨by simp[h1,h3],fun i hi=>?_⟩;simp only[List.length_append]at hi;by_cases h:i<az.length
 ·have:=h2 i h;have h5:i<us.size:=by omega
  simpa[List.getElem?_append_left h,eJ h5]using this
 ·obtain⟨j,rfl⟩:∃ j,i=az.length+j:=⟨i-az.length,by omega⟩;have:=h4 j (by omega);rw[h1];have e1:(az++bs).getD (us.size+j) .undef=bs.getD j .undef:=by rw[<-h1];simp[bU]
  have e2:(us++vs).getD (us.size+j) Go.undef=vs.getD j Go.undef:=by
   rw[fh,Array.getElem?_append_right (by omega)];simp
  rw[e1,e2];exact this
def abk{f:AX}{args:List AX}{e:Env}{K Kp:AV->aj->Prop}(h:(bp.mL f args).run P e σ K Kp): (bp.call false f args).run P e σ K Kp:=by
 simp only[bp.run]at *;split at h
 ·rename_i n hf;unfold Mf at h;split at h
  ·rename_i a r ha;obtain⟨l,ob,nQ,r,_,_,_,h4,h5⟩:=h;simp only[hf,Bool.false_eq_true,if_false,List.nil_append,List.append_nil];exact h4.mono fun o s ⟨e1,e2⟩=>by subst e1;subst e2;exact h5
  ·exact h.elim
 ·exact h.elim
def ZN{m q:Bool}{f:AX}{args:List AX}{e:Env}{K Kp:AV->aj->Prop}(h:(aa5 m q f args).run P e σ K Kp): ∃ q,(bp.call q f args).run P e σ K Kp:=by
 cases m
 ·exact⟨q,h⟩
 ·exact⟨false,abk h⟩
def YE {o : Oper} {a : Act} {f : FuncId} {vs : Array Value} {args : List AV} (ia : Hj o) (hex : (execOp a.eval o).run P w = .ok (.enter f vs) w) (hR : Rel g w σ) (hl : args.length = vs.size)
    (h : ∀ i, i < args.length -> VR g w (args.getD i .undef) (vs.getD i Go.undef)) (hc : f_ P f args σ fun
      | .ret r,σ'=>K r σ'
      | .panic r,σ'=>Kp r σ'):o.wpIn (WF ro) wn P a w (J9 g w σ a o.dst K) (PB g w σ a Kp):=by
 refine uU ia ?_;rw[hex];refine⟨fun h=>by simp[WF,Fence.wide]at h,RE.2 ((hc.2 g w vs hR hl h).mono ?_)⟩;rintro e w' ⟨out,g',σ',h1,h2,h3,h4⟩;cases out with
 | ret r =>
   cases e with
   | returned v=>exact⟨v,g',r,σ',rfl,h1,h2,h3,h4⟩
   | panicked c=>exact h3.elim
   | outgrown=>exact h3.elim
 | panic r =>
   cases e with
   | returned v=>exact h3.elim
   | panicked c=>obtain⟨v,rfl,h3⟩:=h3;exact⟨rfl,v,g',r,σ',rfl,h1,h2,h3,h4⟩
   | outgrown=>exact h3.elim
def acH {o : Oper} {a : Act} {l b : Nat} {vs : Array Value} {args : List AV} (ia : Hj o) (hex : (execOp a.eval o).run P w = (Instr.yield b vs).run P w) (hR : Rel g w σ) (hb : g.di l = 0 -> g.base l = some b) (hl : args.length = vs.size)
    (h : ∀ i, i < args.length -> VR g w (args.getD i .undef) (vs.getD i Go.undef)) (hc : wW P l args σ fun
      | .ret r,σ'=>K r σ'
      | .panic r,σ'=>Kp r σ'):o.wpIn (WF ro) wn P a w (J9 g w σ a o.dst K) (PB g w σ a Kp):=by
 refine uU ia ?_;obtain⟨⟨nt,e,ps,ca,cb,st,pe,ho⟩,hc⟩:=hc;have pF:=(hR.ok l _ ho).1;obtain⟨fn,tmps,ca,cb,r1,r2⟩:=hc g w vs b hR (hb pF) hl h;rw[hex,r1];refine⟨fun h=>by simp[WF,Fence.wide]at h,?_⟩;have r3:RoundIn (WF ro) (wn-1) P b fn tmps ca cb w _:=⟨trivial,fun c cs _=>r2.2 c cs (room_wide _)⟩;refine r3.mono ?_;rintro e w' ⟨out,g',σ',h1,h2,h3,h4⟩;cases out with
 | ret r =>
   cases e with
   | returned v=>exact⟨v,g',r,σ',rfl,h1,h2,h3,h4⟩
   | panicked c=>exact h3.elim
   | outgrown=>exact h3.elim
 | panic r =>
   cases e with
   | returned v=>exact h3.elim
   | panicked c=>obtain⟨v,rfl,h3⟩:=h3;exact⟨rfl,v,g',r,σ',rfl,h1,h2,h3,h4⟩
   | outgrown=>exact h3.elim
def J_{f:FuncId}(h:Has P f)(args:Array Value)(w:World): (callFunc f args).run P w = .ok (.enter f args) w:=by
 obtain⟨fn,h1,h2,h3⟩:=h;have h4:fn.body.isNone=false:=by cases hb:fn.body<;>simp_all
 simp only[callFunc,Sem.run_bind,run_program,Result.andThen_ok,h1,h3,h4,Bool.false_eq_true,if_false,Sem.run_pure]
set_option maxHeartbeats 1000000 in
def Vh {nt : Nat} {h : Hints} {dr : Bool} {o : Oper} {ao : bp} {e : Env} {a : Act} (hc : zM P nt h dr o = some ao) (hR : Rel g w σ) (hE : gj nt g w e a.tmps) (hK : ao.run P e σ K Kp) :
    o.wpIn (WF ro) wn P a w (J9 g w σ a o.dst K) (PB g w σ a Kp):=by
 have ia:Hj o:=fun c hop=>by simp[zM,hop]at hc
 unfold zM at hc;cases hop:o.op<;>simp only[hop]at hc<;>(try (cases hc;done))
 case move x =>
  simp only[aU]at hc;obtain⟨ax,h1,rfl⟩:=hc;exact zO ia hR (by simp[execOp,hop]) (cL h1 hE) hK
 case assign x =>
  have mv:∀ ax,cX nt x=some ax->bp.run P (.mv ax) e σ K Kp->o.wpIn (WF ro) wn P a w (J9 g w σ a o.dst K) (PB g w σ a Kp):=fun ax h1 hK =>
   zO ia hR (by simp[execOp,hop]) (cL h1 hE) hK
  split at hc
  ·rename_i el hel;split at hc
   ·rename_i hnil;cases hc
    have hx:a.eval x = .slice none 0 0:=by
     cases x with
     | const v =>
       cases v with
       | slice p l c =>
         cases p with
         | none=>simp[w7]at hnil;obtain⟨rfl,rfl⟩:=hnil;rfl
         | some p=>simp[w7]at hnil
       | _=>simp[w7]at hnil
     | _=>simp[w7]at hnil
    obtain⟨r1,r2⟩:=hR.iZ el;refine oU ia (v:= .slice none 0 0) (w':=w) (by simp[execOp,hop,hx]) ⟨_,_,_,_,rfl,r1,r2,.own _ _ _ _ _ _ ⟨by simp[aO.push,hR.len],bP _,_,_,rfl,fun _=>⟨by omega,by simp[aO.push,hR.len],fun h=>by simp[aO.push,hR.len]at h⟩⟩,hK⟩
   ·simp only[aU]at hc;obtain⟨ax,h1,rfl⟩:=hc;exact mv ax h1 hK
  ·simp only[aU]at hc;obtain⟨ax,h1,rfl⟩:=hc;exact mv ax h1 hK
 case pick c x y =>
  split at hc
  ·rename_i ac ax ay h1 h2 h3;cases hc;have hv:=cL h1 hE;simp only[bp.run]at hK;generalize AX.ev e ac=z at hv hK;generalize hev:a.eval c=cv at hv;cases hv<;>simp only at hK;rename_i t;refine zO ia (v:=if t then a.eval x else a.eval y) hR (by simp[execOp,hop,hev,asBool]) ?_ hK;cases t
   ·exact cL h3 hE
   ·exact cL h2 hE
  ·cases hc
 case alloc t =>
  split at hc
  ·rename_i z hz;split at hc
   ·simp only[Option.some.injEq]at hc;split at hc
    ·cases hc;simp only[bp.run]at hK;split at hK
     ·split at hK
      ·rename_i hn;exact eu ia (T6 (Ei _ _) hR hn hz hK) (by simp[execOp,hop])
      ·exact hK.elim
     ·exact hK.elim
    ·cases hc;exact eu ia (Xj (Ei _ _) hR hz hK) (by simp[execOp,hop])
   ·cases hc
  ·cases hc
 case box t x =>
  simp only[aU]at hc;obtain⟨ax,h1,h2⟩:=hc;split at h2<;>subst h2<;>simp only[bp.run]at hK
  ·exact eu ia (Zz (t:=t) hR (cL h1 hE) hK.1 hK.2) (by simp[execOp,hop])
  ·exact eu ia (aa6 (t:=t) hR (cL h1 hE) hK.1 hK.2) (by simp[execOp,hop])
 case build t parts =>
  split at hc
  ·rename_i z fs hz hu;split at hc
   ·rename_i hh;simp only[aF]at hh;simp only[aU]at hc;obtain⟨ps,h1,rfl⟩:=hc;exact eu ia (J4 hR hE hz hh.2 hu hh.1 h1 hK) (by simp[execOp,hop])
   ·cases hc
  ·rename_i z n el hz hu;split at hc
   ·rename_i hh;simp only[aF,eZ]at hh;obtain⟨⟨fi,hi⟩,_⟩:=hh;simp only[aU]at hc;obtain⟨ps,h1,rfl⟩:=hc;exact eu ia (MI hR hE hz hu hi h1 hK) (by simp[execOp,hop])
   ·cases hc
  ·cases hc
 case buildSlice t n parts =>
  split at hc
  ·rename_i el hu;split at hc
   ·rename_i bN z he hz;split at hc
    ·rename_i hh;simp only[aF,decide_eq_true_eq]at hh;simp only[aU]at hc;obtain⟨ps,h1,rfl⟩:=hc;exact eu ia (Vf hR hE hu he hz hh.1 hh.2 h1 hK) (by simp[execOp,hop])
    ·cases hc
   ·cases hc
  ·cases hc
 case load t x =>
  split at hc
  ·rename_i ag i ax hA hi h1;split at hc
   ·rename_i hh;cases hc;exact eu ia (ZB hR hA hi (fun e=>by simpa[e]using hh) (cL h1 hE) hK) (by simp[execOp,hop])
   ·cases hc
  ·cases hc
 case store t x y =>
  split at hc
  ·rename_i i ax ay hi h1 h2;cases hc;obtain⟨w',g',σ',r1,r2,r3,r4⟩:=Xk (P:=P) hR hi (cL h1 hE) (cL h2 hE) hK;refine uU ia ?_;have:(execOp a.eval o).run P w = .ok .skip w':=by simp[execOp,hop,r1]
   rw[this];exact⟨_,g',.bX [],σ',rfl,r2,r3,.bX [] #[] rfl (fun i hi=>absurd hi (eF _)),r4⟩
  ·cases hc
 case nilCheck x =>
  simp only[aU]at hc;obtain⟨ax,h1,rfl⟩:=hc;obtain⟨v,w',g',av,σ',r1,r2,r3,r4,r5⟩:=Xn (P:=P) (K:=K) hop rfl hR (cL h1 hE) hK;exact oU ia r1 ⟨v,g',av,σ',rfl,r2,r3,r4,r5⟩
 case binOp op t x y yt =>
  have hs:∀ {K:AV->aj->Prop},bQ P (do eqGuard op t x y (a.eval x) (a.eval y);binOp op t (a.eval x) (a.eval y)) g w σ K->o.wpIn (WF ro) wn P a w (J9 g w σ a o.dst K) (PB g w σ a Kp):=fun hh =>
   eu ia hh (by simp[execOp,hop])
  split at hc
  ·rename_i ax ay h1 h2;have v1:=cL h1 hE;have v2:=cL h2 hE;split at hc
   ·cases hc;exact hs (Px hR v1 v2 hK)
   ·cases hc;exact hs (Px hR v1 v2 hK)
   ·rename_i d _ _ hu;split at hc
    ·rename_i k hk;split at hc
     ·split at hc
      ·rename_i te _ hpt;split at hc
       ·rename_i i _ hi;cases hc;exact hs (S3 (op:= .eql) (.inl ⟨rfl,rfl⟩) hR hu hi v1 v2 hK)
       ·rename_i i _ hi;cases hc;exact hs (S3 (op:= .neq) (.inr ⟨rfl,rfl⟩) hR hu hi v1 v2 hK)
       ·cases hc
      ·cases hc
     split at hc
     ·rename_i hn;simp only[dB]at hn;split at hc
      ·cases hc;refine hs (M1 (op:= .eql) (.inl rfl) hR hu hk hn v1 v2 ?_);simp only[bp.run]at hK;generalize tR k (AX.ev e ax) (AX.ev e ay)=r at hK ⊢;cases r<;>exact hK
      ·cases hc;refine hs (M1 (op:= .neq) (.inr rfl) hR hu hk hn v1 v2 ?_);simp only[bp.run]at hK;generalize tR k (AX.ev e ax) (AX.ev e ay)=r at hK ⊢;cases r<;>exact hK
      ·cases hc
     ·cases hc
    ·split at hc
     ·rename_i ks ag i hf hA hi;split at hc
      ·rename_i hh;simp only[aF,beq_iff_eq,dB,bZ]at hh
       have hg:ag=true->P.eqGuardType P.depth t=false:=fun e=>by
        rcases hh.2 with h|h
        ·rw[e]at h;cases h
        ·exact h
       split at hc
       ·cases hc;exact hs (SW (op:= .eql) (.inl rfl) hR hf hA hi hh.1 hg v1 v2 hK)
       ·cases hc;exact hs (SW (op:= .neq) (.inr rfl) hR hf hA hi hh.1 hg v1 v2 hK)
       ·cases hc
      ·cases hc
     ·cases hc
   ·cases hc
  ·cases hc
 case unOp op t x =>
  simp only[aU]at hc;obtain⟨ax,h1,rfl⟩:=hc;exact eu ia (acB hR (cL h1 hE) hK) (by simp[execOp,hop])
 case convert s d x =>
  have hs:bQ P (convert s d (a.eval x)) g w σ K->o.wpIn (WF ro) wn P a w (J9 g w σ a o.dst K) (PB g w σ a Kp):=fun hh=>eu ia hh (by simp[execOp,hop]);split at hc
  ·rename_i k' k ax hs1 CC h1;cases hc;exact hs (ZC hR hs1 CC (cL h1 hE) hK)
  ·rename_i ax hs1 CC h1;cases hc;have v1:=cL h1 hE;simp only[bp.run]at hK;generalize AX.ev e ax=z at v1 hK;cases z<;>simp only at hK;exact hs (aa8 hR hs1 CC v1 ⟨_,rfl⟩ hK)
  ·rename_i el ax hs1 CC h1;split at hc
   ·rename_i i he hi;split at hc
    ·cases hc;exact hs (abe (fi:=i) hR hs1 CC he (cL h1 hE) hK)
    ·cases hc
   ·cases hc
  ·rename_i el ax hs1 CC h1;split at hc
   ·rename_i i he hi;split at hc
    ·cases hc;have v1:=cL h1 hE;obtain⟨hn,hK⟩:=hK;refine hs (abf hR hs1 CC he v1 hK ?_);generalize AX.ev e ax=z at v1 hn hK;generalize a.eval x=xv at v1;cases v1<;>simp only[iA]at hK hn
     ·exact⟨_,_,_,rfl⟩
     ·exact⟨_,_,_,rfl⟩
     ·exact⟨_,_,_,rfl⟩
     ·rename_i h;obtain⟨_,_,A,cap,rfl,_⟩:=h;exact⟨_,_,_,rfl⟩
    ·cases hc
   ·cases hc
  ·rename_i t ax hs1 CC h1;split at hc
   ·rename_i i hi;split at hc
    ·cases hc
    ·rename_i h0;cases hc;exact hs (abi hR hs1 CC hi (by simpa using h0) (cL h1 hE) hK)
   ·cases hc
  ·rename_i t ax hs1 CC h1;split at hc
   ·rename_i i hi;cases hc;exact hs (abj hR hs1 CC hi (cL h1 hE) hK)
   ·cases hc
  ·cases hc
 case makeInterface t x =>
  split at hc
  ·cases hc
  ·cases hc
  ·rename_i d h1 h2;simp only[aU]at hc;obtain⟨ax,h3,rfl⟩:=hc;cases hu:P.underlying t with
   | none=>exact absurd hu h2
   | some d=>exact eu ia (Xo hR hu (fun ms e=>h1 ms (by rw[hu,e])) (cL h3 hE) hK) (by simp[execOp,hop])
 case makeFunc fn first cap =>
  split at hc
  ·rename_i az bs h1 h2;cases hc;obtain⟨a1,a2⟩:=yP h1 hE;obtain⟨b1,b2⟩:=yP h2 hE;exact zO ia (v:= .func fn (first.map a.eval) (cap.map a.eval)) hR (by simp[execOp,hop,Instr.makeFunc]) (.fn fn _ _ _ _ a1 b1 a2 b2) hK
  ·cases hc
 case slice t x lo hi mx =>
  split at hc
  ·rename_i ax al ah am h1 h2 h3 h4;have v1:=cL h1 hE
   have hm:am=none->mx=none:=fun e=>by
    cases mx with
    | none=>rfl
    | some m=>simp only[YA,Option.map_eq_some_iff]at h4;obtain⟨b,_,rfl⟩:=h4;cases e
   split at hc
   ·rename_i hu;split at hc
    ·rename_i hn;cases hc;have:mx=none:=hm (by simpa using hn);subst this;exact eu ia (aa9 hR hu v1 (Ek h2 hE) (Ek h3 hE) hK) (by simp[execOp,hop])
    ·cases hc
   ·rename_i el hu;split at hc
    ·rename_i hn;simp only[aU]at hc;obtain⟨bN,he,rfl⟩:=hc;have:mx=none:=hm (by simpa using hn);subst this;refine eu ia (aa_ hR hu he v1 (Ek h2 hE) (Ek h3 hE) ?_) (by simp[execOp,hop]);simp only[bp.run]at hK;clear v1;generalize AX.ev e ax=z at hK ⊢;cases z<;>exact hK
    ·cases hc
   ·cases hc
  ·cases hc
 case fieldAddr s x f =>
  split at hc
  ·rename_i fs ax hu h1;simp only[Option.bind_eq_some_iff]at hc;obtain⟨fi,hf,hc⟩:=hc;split at hc
   ·cases hc
   ·rename_i h0;cases hc;cases hi:P.info? fi.type with
    | none=>simp[hi]at h0
    | some i=>exact eu ia (Xm hR hu hf hi (by simpa[hi]using h0) (cL h1 hE) hK) (by simp[execOp,hop])
  ·cases hc
 case field s x f =>
  split at hc
  ·rename_i fs ax hu h1;simp only[Option.bind_eq_some_iff]at hc;obtain⟨fi,hf,hc⟩:=hc;split at hc
   ·rename_i ag i hA hi;split at hc
    ·cases hc;exact eu ia (Xl hR hu hf hA hi (cL h1 hE) hK) (by simp[execOp,hop])
    ·cases hc
   ·cases hc
  ·cases hc
 case indexAddr t x y =>
  split at hc
  ·rename_i el ax ay hu h1 h2;simp only[aU]at hc;obtain⟨bN,he,rfl⟩:=hc;refine eu ia (U_ hR hu he (cL h1 hE) (cL h2 hE) ?_) (by simp[execOp,hop]);simp only[bp.run]at hK;generalize AX.ev e ax=z at hK ⊢;generalize AX.ev e ay=z' at hK ⊢;cases z'<;>simp only at hK ⊢;cases z<;>exact hK
  ·rename_i n el ax ay hu h1 h2;simp only[aU]at hc;obtain⟨bN,he,rfl⟩:=hc;refine eu ia (Va hR hu he (cL h1 hE) (cL h2 hE) ?_) (by simp[execOp,hop]);simp only[bp.run]at hK;generalize AX.ev e ax=z at hK ⊢;generalize AX.ev e ay=z' at hK ⊢;cases z'<;>simp only at hK ⊢;cases z<;>exact hK
  ·cases hc
 case index t x y =>
  split at hc
  ·rename_i ax ay hu h1 h2;cases hc;exact eu ia (ZD hR hu (cL h1 hE) (cL h2 hE) hK) (by simp[execOp,hop])
  ·rename_i n el ax ay hu h1 h2;simp only[aU]at hc;obtain⟨bN,he,rfl⟩:=hc;exact eu ia (ZE hR hu he (cL h1 hE) (cL h2 hE) hK) (by simp[execOp,hop])
  ·cases hc
 case extract x i =>
  simp only[aU]at hc;obtain⟨ax,h1,rfl⟩:=hc;exact eu ia (T7 hR (cL h1 hE) hK) (by simp[execOp,hop])
 case makeSlice t l c =>
  split at hc
  ·rename_i el al ac hu h1 h2;split at hc
   ·rename_i bN z he hz;cases hc;exact eu ia (T9 hR hu he hz (cL h1 hE) (cL h2 hE) hK) (by simp[execOp,hop])
   ·cases hc
  ·cases hc
 case range t x =>
  split at hc
  ·rename_i ht;simp only[aU]at hc;obtain⟨ax,h1,rfl⟩:=hc;have hv:=cL h1 hE;simp only[bp.run]at hK;generalize AX.ev e ax=z at hv hK;generalize hev:a.eval x=xv at hv;cases hv<;>simp only at hK;rename_i s;obtain⟨r1,r2⟩:=hR.yN (.stringIter ⟨s.toArray⟩ 0) (.iY s 0) 1 0 ⟨by simp[aO.push],w.heap.size,by simp[aO.push],heap_alloc_new w _⟩;refine oU ia (v:= .pointer (some ⟨w.heap.size,0,none⟩)) (w':=w.alloc (.stringIter ⟨s.toArray⟩ 0)) ?_ ⟨_,_,_,_,rfl,r1,r2,.ref _ _ _ ⟨by simp[aO.push,hR.len],_,rfl,fun _=>⟨by simp[aO.push,hR.len],rfl⟩⟩,hK⟩;simp[execOp,hop,hev,Instr.range,bl ht,newObj,Sem.run]
  ·cases hc
 case next x b =>
  split at hc
  ·rename_i hb;simp only[aU]at hc;obtain⟨ax,h1,rfl⟩:=hc;have hv:=cL h1 hE;simp only[bp.run]at hK;generalize AX.ev e ax=z at hv hK;split at hK
   ·split at hK
    ·rename_i l _ s pos hl;generalize hev:a.eval x=xv at hv;cases hv with
     | ref _ _ _ hO =>
       obtain⟨_,A,rfl,h2⟩:=hO;obtain⟨pF,bb,hb1,hb2⟩:=hR.ok l _ hl;obtain⟨h3,h4⟩:=h2 pF;rw[hb1]at h3;cases h3;have hsz:(⟨s.toArray⟩:ByteArray).size=s.length:=rfl;split at hK
       ·rename_i hlt
        have hup:=hR.update (o':= .iY s (pos+(Utf8.decode ⟨s.toArray⟩ pos).2)) (w':= { w with heap:=w.heap.setIfInBounds A.block (.stringIter ⟨s.toArray⟩ (pos+(Utf8.decode ⟨s.toArray⟩ pos).2)) }) hl rfl hb1
         (by simp) rfl rfl rfl (fun c hc=>by simp[Array.getElem?_setIfInBounds,Ne.symm hc]) (fun _=>⟨pF,_,hb1,by have:=(dR.1 hb2).1;simp[this]⟩)
        refine oU ia ?_ ⟨_,g,_,_,rfl,hup.1,hup.2,.bX _ #[.bool true,.int .i64 pos,.int .i32 (Utf8.decode ⟨s.toArray⟩ pos).1] rfl (fun i hi=>?_),hK⟩
        ·rw[h4]at hev;have hlt2:pos<(⟨s.toArray⟩:ByteArray).size:=hlt;simp only[execOp,hop,hev,Instr.next,getObj,setObj,Sem.run_bind,Sem.run,hb2,Result.andThen,hb,hlt2,if_true];have:=(dR.1 hb2).1;simp[this,goInt]
        ·match i,hi with
         | 0,_=>exact .bool true
         | 1,_=>exact .int _ _
         | 2,_=>exact .int _ _
       ·rename_i hlt;refine oU ia (v:= .tuple #[.bool false]) (w':=w) ?_ ⟨_,g,_,_,rfl,hR,.refl _ _ _,.bX _ _ rfl (fun i hi=>?_),hK⟩
        ·rw[h4]at hev;have hlt2:¬ pos<(⟨s.toArray⟩:ByteArray).size:=hlt;simp only[execOp,hop,hev,Instr.next,getObj,setObj,Sem.run_bind,Sem.run,hb2,Result.andThen,hb,hlt2,if_false];rfl
        ·match i,hi with
         | 0,_=>exact .bool false
    ·exact hK.elim
   ·exact hK.elim
  ·cases hc
 case panic x =>
  simp only[aU]at hc;obtain⟨ax,h1,rfl⟩:=hc;have v1:=cL h1 hE;simp only[bp.run]at hK;generalize AX.ev e ax=z at v1 hK;generalize hev:a.eval x=xv at v1;cases v1<;>simp only at hK;rename_i t b v h;refine uU ia ?_;have:(execOp a.eval o).run P w = .halt (.panic (.iface t v)) w:=by simp[execOp,hop,hev,Instr.panic]
  rw[this];exact⟨rfl,.iface t v,g,.qc t b,σ,rfl,hR,.refl _ _ _,.qc t b v h,hK⟩
 case call c =>
  obtain⟨callee,args,ats⟩:=c;simp only at hc;cases callee with
  | invoke r m=>cases hc
  | value f =>
    simp only at hc;split at hc
    ·rename_i gf ax h0 h2;cases hc;obtain⟨⟨fn,hf,hn,hb,uy,qS⟩,hK⟩:=hK
     have hfg:f = .func gf:=by
      cases f with
      | func f =>
        simp only[adZ]at h0;split at h0
        ·split at h0
         ·cases h0;rfl
         ·cases h0
        ·cases h0
      | _=>cases h0
     subst hfg
     have hargs:∃ x0,args = #[x0]/\cX nt x0=some ax:=by
      cases hl:args.toList with
      | nil=>rw[hl]at h2;cases h2
      | cons x0 r =>
        rw[hl]at h2;simp only[J0]at h2;split at h2
        ·rename_i a1 az1 e1 e2;cases h2;cases r with
         | nil=>exact⟨x0,by rw[<-eL (xs:=args),hl],e1⟩
         | cons x1 r =>
           simp only[J0]at e2;split at e2<;>cases e2
        ·cases h2
     obtain⟨x0,rfl,hx0⟩:=hargs;have v1:=cL hx0 hE;refine zO ia hR (v:=a.eval x0) ?_ v1 hK;simp only[execOp,hop,resolve,Sem.run_bind,Act.eval,Deferred.ofValue,Sem.run_pure,Result.andThen_ok,invoke];simp only[List.map_toArray,bu,bt,List.append_toArray,List.nil_append,List.append_nil];rw[run_callFunc_extern hf hn hb uy qS];rfl
    ·rename_i af az h1 h2 _
     have key:∃ q,(bp.call q af az).run P e σ K Kp:=by
      cases hc;exact ZN hK
     clear hc hK;obtain⟨qq,hK⟩:=key;have v1:=cL h1 hE;simp only[bp.run]at hK;generalize AX.ev e af=z at v1 hK;generalize hev:a.eval f=fv at v1;by_cases zP:∃ l,z = .ux l
     ·obtain⟨l,rfl⟩:=zP;cases v1;rename_i hy;obtain⟨hl,b,rfl,hb⟩:=hy;obtain⟨a1,a2⟩:=yP h2 hE;simp only at hK
      have both:∀ q:Bool,(if q then False else wW P l (az.map (AX.ev e)) σ fun
       | .ret r,σ'=>K r σ'
       | .panic r,σ'=>Kp r σ')->o.wpIn (WF ro) wn P a w (J9 g w σ a o.dst K) (PB g w σ a Kp):=fun q hK=>by
       cases q with
       | true=>exact(by simpa using hK:False).elim
       | false =>
       simp only[Bool.false_eq_true,if_false]at hK;refine acH ia (b:=b) (vs:=args.map a.eval) ?_ hR hb a1 a2 hK;simp only[execOp,hop,resolve,Sem.run_bind,hev,Deferred.ofValue,Sem.run_pure,Result.andThen_ok,invoke];simp
      exact both _ hK
     cases v1<;>(try exact hK.elim)
     case ux=>exact absurd ⟨_,rfl⟩ zP
     rename_i fn first cap first' cap' hl hl' hh Vb
     cases fn<;>(try exact hK.elim);rename_i n;simp only at hK;obtain⟨a1,a2⟩:=yP h2 hE;obtain⟨b1,b2⟩:=BO hl hh a1 a2;obtain⟨c1,c2⟩:=BO b1 b2 hl' Vb
     have hex:Has P n->(execOp a.eval o).run P w = .ok (.enter n (first'++args.map a.eval++cap')) w:=fun hb=>by
      simp only[execOp,hop,resolve,Sem.run_bind,hev,Deferred.ofValue,Sem.run_pure,Result.andThen_ok,invoke,J_ hb]
     have both:∀ q:Bool,(if q then ∃ r,(∀ τ,Eg P n (first++az.map (AX.ev e)++cap) (σ++ τ) r)/\K r σ else f_ P n (first++az.map (AX.ev e)++cap) σ fun
      | .ret r,σ'=>K r σ'
      | .panic r,σ'=>Kp r σ')->o.wpIn (WF ro) wn P a w (J9 g w σ a o.dst K) (PB g w σ a Kp):=fun q hK=>by
      cases q with
      | true =>
        simp only[if_true]at hK;obtain⟨r,hq,hk⟩:=hK;have hq:=hq [];rw[List.append_nil]at hq;exact YE ia (hex hq.1) hR c1 c2 (hq.mono fun out σ' ⟨h1,h2⟩=>by subst h1;subst h2;exact hk)
      | false =>
        simp only[Bool.false_eq_true,if_false]at hK;exact YE ia (hex hK.1) hR c1 c2 hK
     exact both _ hK
    ·cases hc
  | builtin b =>
    have hs:∀ {s:Sem Value} {K:AV->aj->Prop},bQ P s g w σ K->builtin b ats o.type (args.map fun | .const _=>true|_=>false) (args.map a.eval)=(do pure (.value (← s)):Sem Next)->o.wpIn (WF ro) wn P a w (J9 g w σ a o.dst K) (PB g w σ a Kp):=fun hh hb=>by
     refine eu ia hh ?_;simp only[execOp,hop,resolve];exact hb
    cases b<;>simp only at hc<;>(try (cases hc;done))
    case len =>
     split at hc
     ·rename_i t x ht hx;have hargs:args = #[x]:=by rw[<-eL (xs:=args),hx]
      subst hargs;split at hc
      ·rename_i hu;simp only[aU]at hc;obtain⟨ax,h1,rfl⟩:=hc;refine hs (s:=Builtin.len_ ats o.type #[a.eval x]) (ZG hR ht hu (cL h1 hE) ?_) (by simp[builtin]);simp only[bp.run]at hK;generalize AX.ev e ax=z at hK ⊢;cases z<;>exact hK
      ·rename_i el hu;simp only[aU]at hc;obtain⟨ax,h1,rfl⟩:=hc;refine hs (s:=Builtin.len_ ats o.type #[a.eval x]) (ZH hR ht hu (cL h1 hE) ?_) (by simp[builtin]);simp only[bp.run]at hK;generalize AX.ev e ax=z at hK ⊢;cases z<;>exact hK
      ·cases hc
     ·cases hc
    case append =>
     split at hc
     ·rename_i t u x y ht hu hx;have hargs:args = #[x,y]:=by rw[<-eL (xs:=args),hx]
      subst hargs;split at hc
      ·rename_i el bN ax ay hu1 hu2 h1 h2;simp only[aU]at hc;obtain⟨el2,he,rfl⟩:=hc;split at hK
       ·simp only[bp.run]at hK;split at hK
        ·split at hK
         ·rename_i hn;split at hK
          ·rename_i ys hys;exact hs (s:=Builtin.append_ ats o.type #[a.eval x,a.eval y]) (Xq hR ht hu hu1 hu2 (by simp) he (cL h1 hE) (cL h2 hE) (.inl rfl) hn hys hK.1 hK.2.1 hK.2.2.1 hK.2.2.2) (by simp[builtin])
          ·exact hK.elim
         ·exact hK.elim
        ·exact hK.elim
       ·exact hs (s:=Builtin.append_ ats o.type #[a.eval x,a.eval y]) (J6 hR ht hu hu1 hu2 (by simp) he (cL h1 hE) (cL h2 hE) (Ei _ _) hK) (by simp[builtin])
      ·rename_i el ax ay hu1 hu2 h1 h2;simp only[aU]at hc;obtain⟨el2,he,rfl⟩:=hc;exact hs (s:=Builtin.append_ ats o.type #[a.eval x,a.eval y]) (J6 hR ht hu hu1 hu2 (by simp) he (cL h1 hE) (cL h2 hE) (Ei _ _) hK) (by simp[builtin])
      ·cases hc
     ·cases hc
    case unsafeSliceData =>
     split at hc
     ·rename_i t x ht hx;have hargs:args = #[x]:=by rw[<-eL (xs:=args),hx]
      subst hargs;split at hc
      ·rename_i el ax hu h1;simp only[aU]at hc;obtain⟨el2,he,rfl⟩:=hc;exact hs (s:=Builtin.unsafeSliceData_ ats o.type #[a.eval x]) (abh hR (cL h1 hE) hK) (by simp[builtin])
      ·cases hc
     ·cases hc
    case unsafeString =>
     split at hc
     ·rename_i t t2 x y ht hx;have hargs:args = #[x,y]:=by rw[<-eL (xs:=args),hx]
      have aiW:ats = #[t,t2]:=by rw[<-eL (xs:=ats),ht]
      subst hargs;subst aiW;split at hc
      ·rename_i e1 ax ay hu h1 h2;split at hc
       ·rename_i hce;cases hc;exact hs (s:=Builtin.unsafeString_ #[t,t2] o.type #[a.eval x,a.eval y]) (ZM hR hu (by simpa using hce) (cL h1 hE) (cL h2 hE) hK) (by simp[builtin])
       ·cases hc
      ·cases hc
     ·cases hc
    case min =>
     split at hc
     ·rename_i ax az h1;cases hc;obtain⟨a1,a2⟩:=yP h1 hE;cases hl:args.toList with
      | nil=>rw[hl]at h1;cases h1
      | cons x xs =>
        have hargs:args=(x::xs).toArray:=by rw[<-eL (xs:=args),hl]
        subst hargs;have v0:=a2 0 (by simp);refine hs (s:=Builtin.min_ ats o.type (a.eval x::xs.map a.eval).toArray) (abb (x:=ax.ev e) (xs:=az.map (AX.ev e)) hR (by simpa using v0) (by simpa using a1) (fun i hi=>by simpa using a2 (i+1) (by simpa using hi)) hK) (by simp[builtin])
     ·cases hc
    case max =>
     split at hc
     ·rename_i ax az h1;cases hc;obtain⟨a1,a2⟩:=yP h1 hE;cases hl:args.toList with
      | nil=>rw[hl]at h1;cases h1
      | cons x xs =>
        have hargs:args=(x::xs).toArray:=by rw[<-eL (xs:=args),hl]
        subst hargs;have v0:=a2 0 (by simp);refine hs (s:=Builtin.max_ ats o.type (a.eval x::xs.map a.eval).toArray) (abd (x:=ax.ev e) (xs:=az.map (AX.ev e)) hR (by simpa using v0) (by simpa using a1) (fun i hi=>by simpa using a2 (i+1) (by simpa using hi)) hK) (by simp[builtin])
     ·cases hc
end
end Go.AM
namespace Go.AM
inductive ad1 where
 | normal
 | exit (id:Nat)
 | goto (l:Nat)
 | ret
 | panic (v:AV)
structure c_ where
 op:bp
 dst:Option Nat
 guard:Option (Nat × Bool)
abbrev AQ:=ad1->Env->aj->Prop
def fc(P:Program)(Q:AQ): List c_->Env->aj->Prop
 | [],e,σ=>Q .normal e σ
 |⟨o,d,none⟩::r,e,σ=>o.run P e σ (fun v σ'=>fc P Q r (fC e d v) σ') (fun v σ'=>Q (.panic v) e σ')
 | ⟨o, d, some (k, b)⟩ :: r, e, σ => match e k with
   | .bool t => (t = b -> o.run P (fC e (some k) (.bool b)) σ (fun v σ' => fc P Q r (fC (fC e (some k) (.bool b)) d v) σ') (fun v σ' => Q (.panic v) (fC e (some k) (.bool b)) σ')) /\
      (t = !b->fc P Q r (fC (fC e (some k) (.bool (!b))) d (.bX [])) σ)
   | .bX []=>fc P Q r (fC e d (.bX [])) σ
   | _=>False
inductive aI where
 | skip
 | region (ops:List c_)
 | draw (ops:List c_) (lY:List (AX × AX))
 | seq (a b:aI)
 | cond (c:AX) (thn els:aI)
 | block (id:Nat) (body:aI)
 | loop (body:aI)
 | exit (id:Nat)
 | ret
 | scope (l:Nat) (body rest:aI)
 | label (l:Nat)
 | goto (l:Nat)
 | jG (f:AX) (nt:Nat) (ps:List Nat) (asg body:aI)
 | stop
def w8(K:Env->aj->Prop)(Q:AQ): AQ
 | .normal,e,σ=>K e σ
 | x,e,σ=>Q x e σ
def uV(id:Nat)(Q:AQ): AQ
 | .exit i,e,σ=>if i=id then Q .normal e σ else Q (.exit i) e σ
 | x,e,σ=>Q x e σ
def sK: List (AX × AX)->Env->Prop
 | [],_=>True
 |(x,y)::r,e=>mH (x.ev e) (y.ev e)/\sK r e
def qw(lY:List (AX × AX))(Q:AQ): AQ
 | .normal,e,σ=>sK lY e/\Q .normal e σ
 | x,e,σ=>Q x e σ
def acI{lY:List (AX × AX)}{Q:AQ}: ∀ {ex e σ},qw lY Q ex e σ->Q ex e σ:=fun {ex e σ} h=>by
 cases ex<;>first|exact h.2|exact h
def ad2(body:AQ->Env->aj->Prop)(Q:AQ)(e:Env)(σ : aj): Prop :=
 ∃(I:Nat->Env->aj->Prop),(∃ n,I n e σ)/\ ∀ n e σ,I n e σ->body (w8 (fun e' σ'=> ∃ m,m<n/\I m e' σ') Q) e σ
def tU(l:Nat)(J:Env->aj->Prop)(Q:AQ): AQ
 | .goto l',e,σ=>l'=l/\J e σ
 | x,e,σ=>Q x e σ
def abl(l:Nat)(body rest:AQ->Env->aj->Prop)(Q:AQ)(e:Env)(σ : aj): Prop :=
 ∃(J:Nat->Env->aj->Prop),body (tU l (fun e σ=> ∃ n,J n e σ) Q) e σ/\ ∀ n e σ,J n e σ->rest (tU l (fun e' σ'=> ∃ m,m<n/\J m e' σ') Q) e σ
def rI: List Nat->List AV->Env->Env
 | p::ps,a::az,e=>rI ps az (fC e (some p) a)
 | _,_,e=>e
def acJ(l:Nat)(o o':aX)(B:Env->aj->Prop): AQ
 | .normal,e,σ=>σ[l]? = some o/\B e (σ.set l o')
 | _,_,_=>False
def Vi(l:Nat)(o:LoopState->Option Code->aX)(R:Out->aj->Prop): AQ
 | .normal,_,σ=>σ[l]? = some (o .busy none)/\R (.ret (.bool true)) (σ.set l (o .ready none))
 | .ret,_,σ=>σ[l]? = some (o .busy none)/\R (.ret (.bool false)) (σ.set l (o .done (some .ret)))
 | .exit i,_,σ=>σ[l]? = some (o .busy none)/\R (.ret (.bool false)) (σ.set l (o .done (some (.exit i))))
 | .goto i,_,σ=>σ[l]? = some (o .busy none)/\R (.ret (.bool false)) (σ.set l (o .done (some (.goto i))))
 | .panic _,_,_=>False
def aiX(l:Nat)(o:LoopState->Option Code->aX)(Q:AQ)(e:Env): Out->aj->Prop
 | .ret _, σ => ∃ st pe, σ[l]? = some (o st pe) /\ st ≠ .busy /\ match pe with
    | none=>Q .normal e (σ.set l .dead)
    | some .ret=>Q .ret e (σ.set l .dead)
    | some (.exit i)=>Q (.exit i) e (σ.set l .dead)
    | some (.goto i)=>Q (.goto i) e (σ.set l .dead)
    | _=>False
 | .panic v,σ=>Q (.panic v) e σ
def RF(P:Program)(nt:Nat)(ps:List Nat)(f:AV)(asg body:AQ->Env->aj->Prop)(Q:AQ)(e:Env)(σ : aj): Prop :=
 match f with
 | .fn (.func n) first cap => ∀ o : LoopState -> Option Code -> aX, (∀ st pe, ∃ ca cb, o st pe = .loop nt e ps.toArray ca cb st pe) ->
    (∀ σ' args R, σ'[σ.length]? = some (o .ready none) -> args.length = ps.length ->
      asg (acJ σ.length (o .ready none) (o .busy none) (body (Vi σ.length o R))) (rI ps args e) σ'->wW P σ.length args σ' R) ->
    f_ P n (first++[.ux σ.length]++cap) (σ++[o .ready none]) (aiX σ.length o Q e)
 | _=>False
def iH(P:Program): aI->AQ->Env->aj->Prop
 | .skip,Q,e,σ=>Q .normal e σ
 | .region ops,Q,e,σ=>fc P Q ops e σ
 | .draw ops lY,Q,e,σ=>fc P (qw lY Q) ops e σ
 | .seq a b,Q,e,σ=>iH P a (w8 (iH P b Q) Q) e σ
 | .cond c a b, Q, e, σ => match c.ev e with
   | .bool t=>(t=true->iH P a Q e σ)/\(t=false->iH P b Q e σ)
   | _=>False
 | .block id c,Q,e,σ=>iH P c (uV id Q) e σ
 | .loop c,Q,e,σ=>ad2 (iH P c) Q e σ
 | .exit id,Q,e,σ=>Q (.exit id) e σ
 | .ret,Q,e,σ=>Q .ret e σ
 | .scope l c r,Q,e,σ=>abl l (iH P c) (iH P r) Q e σ
 | .label _,Q,e,σ=>Q .normal e σ
 | .goto l,Q,e,σ=>Q (.goto l) e σ
 | .jG f nt ps asg body,Q,e,σ=>RF P nt ps (f.ev e) (iH P asg) (iH P body) Q e σ
 | .stop,_,_,_=>False
structure j_ (B:Nat) (σ : aj) (g:aO) (w:World) (ds:List Deferred):Prop where
 nodup:ds.Nodup
 mark:∀ d ∈ ds,∃ D,d = { target:= .collected D,args:= #[] }/\B<=D/\w.heap[D]? = some (.deferred (some []))/\¬ n9 σ g D/\¬ g.gi D
def j_.nil(B:Nat)(σ : aj)(g:aO)(w:World): j_ B σ g w []:=⟨List.nodup_nil,fun _ h=>by cases h⟩
def j_.step{B:Nat}{σ σ':aj}{g g':aO}{w w':World}{ds:List Deferred}(h:j_ B σ g w ds)(hev:gN σ g w σ' g' w'): j_ B σ' g' w' ds:=by
 refine⟨h.nodup,fun d hd=>?_⟩;obtain⟨D,h1,h2,h3,h4,h5⟩:=h.mark d hd;have hlt:D<w.heap.size:=(dR.1 h3).1;exact⟨D,h1,h2,(hev.frame D hlt h4).trans h3,fun ht=>h4 (hev.SK D hlt ht),fun hi=>(hev.Cr D hlt hi).elim h5 h4⟩
def QR(nt:Nat)(B:Nat)(g:aO)(w:World)(σ : aj)(Q:AQ)(ex:Exit)(a:Act)(w':World): Prop :=
 ∃ g' e' σ', j_ B σ' g' w' a.defers /\ Rel g' w' σ' /\ gj nt g' w' e' a.tmps /\ gN σ g w σ' g' w' /\
   match ex with
   | .normal=>Q .normal e' σ'
   | .exit id=>Q (.exit id) e' σ'
   | .goto l=>Q (.goto l) e' σ'
   | .ret=>Q .ret e' σ'
   | .panic chain=> ∃ v av,chain=[{ v,recovered:=false }]/\VR g' w' av v/\Q (.panic av) e' σ'
   | .outgrown=>False
section
variable {P:Program}
def Oper.Vj {F : Fence} {wn : Nat} {o : Oper} {a : Act} {w : World} {K K' : Act -> World -> Prop} {Q Q' : Exit -> Act -> World -> Prop} (h : ∀ a w, K a w -> K' a w) (hq : ∀ e a w, Q e a w -> Q' e a w)
    (hh:o.wpIn F wn P a w K Q):o.wpIn F wn P a w K' Q':=by
 unfold Oper.wpIn at *;refine⟨hh.1,?_⟩
 replace hh:=hh.2
 generalize (o.semAt F.round a.eval).run P w=r at *;cases r with
 | ok n w' =>
   cases n<;>simp only[Oper.uponIn]at hh ⊢ <;>
    first
     | exact h _ _ hh
     | exact ⟨hh.1, CallsIn.mono hh.2 (fun e w'' he => by
        cases e<;>first
         | exact h _ _ he
         | exact hq _ _ _ he
         |(obtain⟨a0,w0,he⟩:=he;exact⟨a0,w0,hq _ _ _ he⟩))⟩
     | exact ⟨hh.1, RoundIn.mono hh.2 (fun e w'' he => by
        cases e<;>first
         | exact h _ _ he
         | exact hq _ _ _ he
         |(obtain⟨a0,w0,he⟩:=he;exact⟨a0,w0,hq _ _ _ he⟩))⟩
     | exact⟨hh.1,RowsIn.mono hh.2 (fun _ _ he=>h _ _ he)⟩
 | halt x w' =>
   cases x<;>simp only[Oper.uponIn]at hh ⊢<;>first
    | exact hq _ _ _ hh
    | exact hh
def put_defers(a:Act)(d:Option Tmp)(v:Value): (a.put d v).defers=a.defers:=by cases d<;>rfl
def S4 {nt : Nat} {g : aO} {w : World} {e : Env} {a : Act} {ops : Array Oper} {o : Oper} {k : Nat} {j : Nat} {b : Bool} (hE : gj nt g w e a.tmps) (hg : o.guard = some (j, b)) (hd : (ops[j]?).bind (·.dst) = some k) (hk : k < nt) :
    (∀ t,e k = .bool t->Region.wanted o (yielded ops a.tmps)=(t==b))/\(e k = .bX []->Region.wanted o (yielded ops a.tmps)=false):=by
 have hv:=hE.rel k hk;have hlt:k<a.tmps.size:=by rw[hE.size];exact hk
 have Av:a.tmps[k]? = some (a.tmps.getD k Go.undef):=by simp[hlt]
 constructor
 ·intro t ht;rw[ht]at hv;generalize a.tmps.getD k Go.undef=v at hv Av;cases hv;simp only[Region.wanted,hg,yielded,hd,Option.bind_some,Av];cases t<;>cases b<;>rfl
 ·intro ht;rw[ht]at hv;generalize a.tmps.getD k Go.undef=v at hv Av;cases hv;simp[Region.wanted,hg,yielded,hd,Av]
def gj.congr{nt:Nat}{g:aO}{w:World}{e:Env}{tmps:Array Value}(h:gj nt g w e tmps){k:Nat}{x:AV}(hx:e k=x): gj nt g w (fC e (some k) x) tmps :=
 ⟨h.size, fun t ht => by
   simp only[fC];split
   ·rename_i e1;subst e1;subst hx;exact h.rel _ ht
   ·exact h.rel t ht⟩
def mM(P:Program)(nt:Nat)(h:Hints)(dr:Bool)(all:Array Oper): List Oper->Option (List c_)
 | []=>some []
 | o :: r => match zM P nt h dr o, mM P nt h dr all r with
   | some ao, some gs => match o.guard with
     | none=>some (⟨ao,o.dst,none⟩::gs)
     | some (j, b) => match (all[j]?).bind (·.dst) with
       | some k=>if k<nt then some (⟨ao,o.dst,some (k,b)⟩::gs)else none
       | none=>none
   | _,_=>none
def abm {ro : Option Nat} {wn : Nat} {nt : Nat} {h : Hints} {dr : Bool} {ops : Array Oper} {B : Nat} {Q : AQ} {g0 : aO} {w0 : World} {wv : aj} : ∀ (l : List Oper) (i : Nat) (gs : List c_) (g : aO) (w : World) (σ : aj) (e : Env) (a : Act),
    mM P nt h dr ops l=some gs->(∀ j,j<l.length->ops[i+j]? = l[j]?)->fc P Q gs e σ->Rel g w σ->gj nt g w e a.tmps->j_ B σ g w a.defers->gN wv g0 w0 σ g w ->
    Go.wpOpsIn (WF ro) wn P ops (QR nt B g0 w0 wv Q) (List.range' i l.length) a w:=by
 intro l
 induction l with
 | nil =>
   intro i gs g w σ e a hc _ hw hR hE hd hev;cases hc;exact⟨g,e,σ,hd,hR,hE,hev,hw⟩
 | cons o l ih =>
   intro i gs g w σ e a hc hidx hw hR hE hd hev;have h0:ops[i]? = some o:=by simpa using hidx 0 (by simp)
   have ad3:∀ j,j<l.length->ops[i+1+j]? = l[j]?:=fun j hj=>by
    have:=hidx (j+1) (by simpa using hj);simpa[ep,Nat.add_comm 1 j]using this
   simp only[mM]at hc;split at hc
   ·rename_i ao gs' h1 h2
    have go:∀ (e1:Env),gj nt g w e1 a.tmps->ao.run P e1 σ (fun v σ'=>fc P Q gs' (fC e1 o.dst v) σ') (fun v σ'=>Q (.panic v) e1 σ') ->
     o.wpIn (WF ro) wn P a w (Go.wpOpsIn (WF ro) wn P ops (QR nt B g0 w0 wv Q) (List.range' (i+1) l.length)) (QR nt B g0 w0 wv Q):=fun e1 CD hrun=>by
     refine Oper.Vj ?_ ?_ (Vh h1 hR CD hrun)
     ·rintro a' w' ⟨v,g',av,σ',rfl,r1,r2,r3,r4⟩;exact ih (i+1) gs' g' w' σ' (fC e1 o.dst av) (a.put o.dst v) h2 ad3 r4 r1 ((CD.mono r2.mono).put o.dst r3) (by rw[put_defers];exact hd.step r2) (hev.trans r2)
     ·rintro ex a' w' ⟨rfl,v,g',av,σ',rfl,r1,r2,r3,r4⟩;exact⟨g',e1,σ',hd.step r2,r1,CD.mono r2.mono,hev.trans r2,v,av,rfl,r3,r4⟩
    have pass:∀ (e1:Env),gj nt g w e1 a.tmps->fc P Q gs' (fC e1 o.dst (.bX [])) σ->Go.wpOpsIn (WF ro) wn P ops (QR nt B g0 w0 wv Q) (List.range' (i+1) l.length) (a.put o.dst Go.undef) w:=fun e1 CD hrun =>
     ih (i+1) gs' g w σ (fC e1 o.dst (.bX [])) (a.put o.dst Go.undef) h2 ad3 hrun hR (CD.put o.dst (.bX [] #[] rfl (fun i hi=>absurd hi (eF _)))) (by rw[put_defers];exact hd) hev
    rw[List.length_cons,List.range'_succ,wpOpsIn_cons];unfold wpOpIn;simp only[h0];split at hc
    ·rename_i hg;cases hc;have ZO:Region.wanted o (yielded ops a.tmps)=true:=by simp[Region.wanted,hg]
     rw[if_pos ZO];exact go e hE hw
    ·rename_i j b hg;split at hc
     ·rename_i k hk;split at hc
      ·rename_i hlt;cases hc;obtain⟨w1,w2⟩:=S4 (ops:=ops) hE hg hk hlt;simp only[fc]at hw;split at hw
       ·rename_i t ht;have hwn:=w1 t ht;by_cases htb:t=b
        ·subst htb;rw[hwn,if_pos (by simp)];exact go _ (hE.congr ht) (hw.1 rfl)
        ·have:t = !b:=by cases t<;>cases b<;>simp_all
         rw[hwn,if_neg (by simpa using htb)];refine⟨fun _ _=>trivial,pass _ (hE.congr ?_) (hw.2 this)⟩;rw[ht,this]
       ·rename_i ht;rw[w2 ht,if_neg (by simp)];exact⟨fun _ _=>trivial,pass e hE hw⟩
       ·exact hw.elim
      ·cases hc
     ·cases hc
   ·cases hc
end
end Go.AM
