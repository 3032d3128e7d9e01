/- Part. -/
import Derived.Test.YthakfmmgnjpmdaaGreatW06
set_option linter.all false
namespace Go.AM
def Dn(g:aM)(w:World)(σ : ae)(a:Act)(dst:Option Tmp)(K:AV->ae->Prop)(a':Act)(w':World): Prop :=
 ∃ v g' av σ',a'=a.put dst v/\Rel g' w' σ'/\fN σ g w σ' g' w'/\VR g' w' av v/\K av σ'
def Iw(g:aM)(w:World)(σ : ae)(a:Act)(Kp:AV->ae->Prop)(ex:Exit)(a':Act)(w':World): Prop :=
 a'=a/\ ∃ v g' av σ',ex = .panic [{ v,recovered:=false }]/\Rel g' w' σ'/\fN σ g w σ' g' w'/\VR g' w' av v/\Kp av σ'
abbrev WF(ro:Option Nat): Fence:= { Fence.wide with round:=ro }
def Kr(ro:Option Nat)(n:Nat): (WF ro).room n:=fun _ h=>by simp[WF,Fence.wide]at h
def Ks{ro:Option Nat}{n:Nat}{P:Program}{f:FuncId}{args:Array Value}{w:World}{R:Ending->World->Prop}: CallsIn (WF ro) n P f args w R↔Calls P f args w R:=callsIn_wide (n:=n)
def A_(o:Oper): Prop:= ∀ c,o.op≠ .defer c
section
variable {P:Program} {g:aM} {w:World} {σ : ae} {K Kp:AV->ae->Prop} {ro:Option Nat} {wn:Nat}
def rC{o:Oper}{a:Act}{next:Act->World->Prop}{Q:Exit->Act->World->Prop}(iK:A_ o)(h:o.uponIn (WF ro) wn P a next Q ((execOp a.eval o).run P w)): o.wpIn (WF ro) wn P a w next Q:=by
 refine⟨fun _ _=>trivial,?_⟩;rw[Oper.semAt_eq _ _ _ iK];exact h
def nS{o:Oper}{a:Act}{v:Value}{w':World}{next:Act->World->Prop}{Q:Exit->Act->World->Prop}(iK:A_ o)(h:(execOp a.eval o).run P w = .ok (.value v) w')(hn:next (a.put o.dst v) w'): o.wpIn (WF ro) wn P a w next Q:=by
 refine rC iK ?_;rw[h];exact hn
def eE{o:Oper}{a:Act}{s:Sem Value}{Q:Exit->Act->World->Prop}(iK:A_ o)(h:cq P s g w σ K)(hs:execOp a.eval o=(do pure (.value (← s)):Sem Next)): o.wpIn (WF ro) wn P a w (Dn g w σ a o.dst K) Q:=by
 obtain⟨v,w',g',av,σ',h1,h2,h3,h4,h5⟩:=h;refine nS iK (v:=v) (w':=w') ?_ ⟨v,g',av,σ',rfl,h2,h3,h4,h5⟩;rw[hs];simp[h1]
def yy{o:Oper}{a:Act}{v:Value}{av:AV}{Q:Exit->Act->World->Prop}(iK:A_ o)(hR:Rel g w σ)(hs:(execOp a.eval o).run P w = .ok (.value v) w)(hv:VR g w av v)(hk:K av σ): o.wpIn (WF ro) wn P a w (Dn g w σ a o.dst K) Q :=
 nS iK hs ⟨v,g,av,σ,rfl,hR,.refl _ _ _,hv,hk⟩
def yz{nt:Nat}{x:Option Operand}{ax:Option AX}{e:Env}{a:Act}(h:SK nt x=some ax)(hE:f_ nt g w e a.tmps): xe g w (ax.map (AX.ev e)) (x.map a.eval):=by
 cases x with
 | none=>cases h;trivial
 | some x =>
   simp only[SK,aZ]at h;obtain⟨b,h1,rfl⟩:=h;exact dB h1 hE
def uu {nt : Nat} {xs : Array Operand} {az : List AX} {e : Env} {a : Act} (h : Il nt xs.toList = some az) (hE : f_ nt g w e a.tmps) :
    (az.map (AX.ev e)).length=(xs.map a.eval).size/\ ∀ i,i<(az.map (AX.ev e)).length->VR g w ((az.map (AX.ev e)).getD i .undef) ((xs.map a.eval).getD i Go.undef):=by
 obtain⟨h1,h2⟩:=aaS h hE;refine⟨by simp[h1],fun i hi=>?_⟩;have:=h2 i (by simpa using hi);simpa using this
def Ba {az bs : List AV} {us vs : Array Value} (h1 : az.length = us.size) (h2 : ∀ i, i < az.length -> VR g w (az.getD i .undef) (us.getD i Go.undef)) (h3 : bs.length = vs.size) (h4 : ∀ i, i < bs.length -> VR g w (bs.getD i .undef) (vs.getD i Go.undef)) :
    (az++bs).length=(us++vs).size/\ ∀ i,i<(az++bs).length->VR g w ((az++bs).getD i .undef) ((us++vs).getD i Go.undef):=by
 refine⟨by simp[h1,h3],fun i hi=>?_⟩;simp only[List.length_append]at hi;by_cases h:i<az.length
 ·have:=h2 i h;have h5:i<us.size:=by omega
  simpa[aV h,eK h5]using this
 ·obtain⟨j,rfl⟩:∃ j,i=az.length+j:=⟨i-az.length,by omega⟩;have:=h4 j (by omega);rw[h1];have e1:(az++bs).getD (us.size+j) .undef=bs.getD j .undef:=by rw[<-h1];simp[bR]
  have e2:(us++vs).getD (us.size+j) Go.undef=vs.getD j Go.undef:=by
   rw[eD,Array.getElem?_append_right (by omega)];simp
  rw[e1,e2];exact this
def Wr{f:AX}{args:List AX}{e:Env}{K Kp:AV->ae->Prop}(h:(bA.n7 f args).run P e σ K Kp): (bA.call false f args).run P e σ K Kp:=by
 simp only[bA.run]at *;split at h
 ·rename_i n hf;unfold E_ at h;split at h
  ·rename_i a r ha;obtain⟨l,ob,mZ,r,_,_,_,h4,h5⟩:=h;simp only[hf,aI,if_false,dP,bH];exact h4.mono fun o s ⟨e1,e2⟩=>by subst e1;subst e2;exact h5
  ·exact h.elim
 ·exact h.elim
def Uo{m q:Bool}{f:AX}{args:List AX}{e:Env}{K Kp:AV->ae->Prop}(h:(Wa m q f args).run P e σ K Kp): ∃ q,(bA.call q f args).run P e σ K Kp:=by
 cases m
 ·exact⟨q,h⟩
 ·exact⟨false,Wr h⟩
def YG{l:List (Nat × El)}{m q:Bool}{f:AX}{args:List AX}{e:Env}{K Kp:AV->ae->Prop}(h:(Yy l m q f args).run P e σ K Kp): ∃ q,(bA.call q f args).run P e σ K Kp:=by
 unfold Yy at h;split at h
 ·rename_i l p l' n;refine⟨false,?_⟩
  have hk:∃ r σ2,eU P n ((args.map (AX.ev e))) σ (fun o σ'=>o = .ret r/\σ' = σ2)/\K r σ2:=by
   replace h:fX.run P (.cw n args.length _) ((args++_).map (AX.ev e)) σ K Kp:=h
   rw[iJ]at h;generalize hz:args.map (AX.ev e)++_=zs at h;cases zs with
   | nil=>exact h.elim
   | cons z zs =>
     obtain⟨r,s2,h1,_,h3⟩:=h;rw[<-hz,List.take_append_of_le_length (by simp),bX (by simp)]at h1;exact⟨r,s2,h1,h3⟩
  obtain⟨r,s2,h1,h3⟩:=hk;simp only[bA.run,AX.ev,aI,if_false,dP,bH];exact h1.mono fun o s ⟨e1,e2⟩=>by subst e1;subst e2;exact h3
 ·exact Uo h
def YH{p:Bool}{l:List (Nat × El)}{m q:Bool}{f:AX}{args:List AX}{e:Env}{K Kp:AV->ae->Prop}(h:(Yz p l m q f args).run P e σ K Kp): ∃ q,(bA.call q f args).run P e σ K Kp:=by
 unfold Yz at h;split at h
 ·rename_i n;refine⟨false,?_⟩;obtain⟨o,h1,h2⟩:∃ o,(∀ s,eU P n (args.map (AX.ev e)) s fun o' s'=>o'=o/\s'=s)/\pcK (fun r=>K r σ) (fun v=> ∀ s,Kp v s) o:=h;simp only[bA.run,AX.ev,aI,if_false,dP,bH];refine(h1 σ).mono fun o' s ⟨e1,e2⟩=>?_;subst e1;subst e2;cases o' with
  | ret r=>exact h2
  | panic v=>exact h2 _
 ·exact YG h
def SS {o : Oper} {a : Act} {f : FuncId} {vs : Array Value} {args : List AV} (iK : A_ o) (hex : (execOp a.eval o).run P w = .ok (.enter f vs) w) (hR : Rel g w σ) (hl : args.length = vs.size)
    (h : ∀ i, i < args.length -> VR g w (args.getD i .undef) (vs.getD i Go.undef)) (hc : eU P f args σ fun
      | .ret r,σ'=>K r σ'
      | .panic r,σ'=>Kp r σ'):o.wpIn (WF ro) wn P a w (Dn g w σ a o.dst K) (Iw g w σ a Kp):=by
 refine rC iK ?_;rw[hex];refine⟨fun h=>by simp[WF,Fence.wide]at h,Ks.2 ((hc.2 g w vs hR hl h).mono ?_)⟩;rintro e w' ⟨out,g',σ',h1,h2,h3,h4⟩;cases out with
 | ret r =>
   cases e with
   | returned v=>exact⟨v,g',r,σ',rfl,h1,h2,h3,h4⟩
   | panicked c=>exact h3.elim
   | outgrown=>exact h3.elim
 | panic r =>
   cases e with
   | returned v=>exact h3.elim
   | panicked c=>obtain⟨v,rfl,h3⟩:=h3;exact⟨rfl,v,g',r,σ',rfl,h1,h2,h3,h4⟩
   | outgrown=>exact h3.elim
def YI {o : Oper} {a : Act} {l b : Nat} {vs : Array Value} {args : List AV} (iK : A_ o) (hex : (execOp a.eval o).run P w = (Instr.yield b vs).run P w) (hR : Rel g w σ) (hb : g.ver l = 0 -> g.base l = some b) (hl : args.length = vs.size)
    (h : ∀ i, i < args.length -> VR g w (args.getD i .undef) (vs.getD i Go.undef)) (hc : u7 P l args σ fun
      | .ret r,σ'=>K r σ'
      | .panic r,σ'=>Kp r σ'):o.wpIn (WF ro) wn P a w (Dn g w σ a o.dst K) (Iw g w σ a Kp):=by
 refine rC iK ?_;obtain⟨⟨nt,e,ps,ca,cb,st,pe,ho⟩,hc⟩:=hc;have kp:=(hR.ok l _ ho).1;obtain⟨fn,tmps,ca,cb,r1,r2⟩:=hc g w vs b hR (hb kp) hl h;rw[hex,r1];refine⟨fun h=>by simp[WF,Fence.wide]at h,?_⟩;have r3:RoundIn (WF ro) (wn-1) P b fn tmps ca cb w _:=⟨trivial,fun c cs _=>r2.2 c cs (room_wide _)⟩;refine r3.mono ?_;rintro e w' ⟨out,g',σ',h1,h2,h3,h4⟩;cases out with
 | ret r =>
   cases e with
   | returned v=>exact⟨v,g',r,σ',rfl,h1,h2,h3,h4⟩
   | panicked c=>exact h3.elim
   | outgrown=>exact h3.elim
 | panic r =>
   cases e with
   | returned v=>exact h3.elim
   | panicked c=>obtain⟨v,rfl,h3⟩:=h3;exact⟨rfl,v,g',r,σ',rfl,h1,h2,h3,h4⟩
   | outgrown=>exact h3.elim
def Dp{f:FuncId}(h:Has P f)(args:Array Value)(w:World): (callFunc f args).run P w = .ok (.enter f args) w:=by
 obtain⟨fn,h1,h2,h3⟩:=h;have h4:fn.body.isNone=false:=by cases hb:fn.body<;>simp_all
 simp only[callFunc,Sem.run_bind,run_program,Result.andThen_ok,h1,h3,h4,aI,if_false,Sem.run_pure]
def OW {nt : Nat} {h : Hints} {dr : Bool} {o : Oper} {ao : bA} {e : Env} {a : Act} (hc : u_ P nt h dr o = some ao) (hR : Rel g w σ) (hE : f_ nt g w e a.tmps) (hK : ao.run P e σ K Kp) :
    o.wpIn (WF ro) wn P a w (Dn g w σ a o.dst K) (Iw g w σ a Kp):=by
 have iK:A_ o:=fun c hop=>by simp[u_,hop]at hc
 unfold u_ at hc;cases hop:o.op<;>simp only[hop]at hc<;>(try (cases hc;done))
 case move x =>
  simp only[aZ]at hc;obtain⟨ax,h1,rfl⟩:=hc;by_cases hb:(!dr && aci o.dst h.Ub)=true
  ·rw[if_pos hb]at hK;exact eE iK (Wp (P:=P) hR (dB h1 hE) hK) (by simp[execOp,hop])
  ·rw[if_neg hb]at hK;exact yy iK hR (by simp[execOp,hop]) (dB h1 hE) hK
 case assign x =>
  have mv:∀ ax,cX nt x=some ax->bA.run P (.mv ax) e σ K Kp->o.wpIn (WF ro) wn P a w (Dn g w σ a o.dst K) (Iw g w σ a Kp):=fun ax h1 hK =>
   yy iK hR (by simp[execOp,hop]) (dB h1 hE) hK
  split at hc
  ·rename_i el hel;split at hc
   ·rename_i jn;cases hc
    have hx:a.eval x = .slice none 0 0:=by
     cases x with
     | const v =>
       cases v with
       | slice p l c =>
         cases p with
         | none=>simp[sZ]at jn;obtain⟨rfl,rfl⟩:=jn;rfl
         | some p=>simp[sZ]at jn
       | _=>simp[sZ]at jn
     | _=>simp[sZ]at jn
    obtain⟨r1,r2⟩:=hR.ji el;refine nS iK (v:= .slice none 0 0) (w':=w) (by simp[execOp,hop,hx]) ⟨_,_,_,_,rfl,r1,r2,.own _ _ _ _ _ _ ⟨by simp[aM.push,hR.len],fx _,_,_,rfl,fun _=>⟨by omega,by simp[aM.push,hR.len],fun h=>by simp[aM.push,hR.len]at h⟩⟩,hK⟩
   ·simp only[aZ]at hc;obtain⟨ax,h1,rfl⟩:=hc;exact mv ax h1 hK
  ·simp only[aZ]at hc;obtain⟨ax,h1,rfl⟩:=hc;exact mv ax h1 hK
 case pick c x y =>
  split at hc
  ·rename_i ac ax ay h1 h2 h3;cases hc;have hv:=dB h1 hE;simp only[bA.run]at hK;generalize AX.ev e ac=z at hv hK;generalize dI:a.eval c=cv at hv;cases hv<;>simp only at hK;rename_i t;refine yy iK (v:=if t then a.eval x else a.eval y) hR (by simp[execOp,hop,dI,asBool]) ?_ hK;cases t
   ·exact dB h3 hE
   ·exact dB h2 hE
  ·cases hc
 case alloc t =>
  split at hc
  ·rename_i z hz;split at hc
   ·simp only[Option.some.injEq]at hc;subst hc;exact eE iK (Rg (Dd _ _) hR hz hK) (by simp[execOp,hop])
   ·cases hc
  ·cases hc
 case box t x =>
  simp only[aZ]at hc;obtain⟨ax,h1,h2⟩:=hc;subst h2;simp only[bA.run]at hK;exact eE iK (Wb (t:=t) hR (dB h1 hE) hK.1 hK.2) (by simp[execOp,hop])
 case build t parts =>
  split at hc
  ·rename_i z fs hz hu;split at hc
   ·rename_i hh;simp only[aC]at hh;simp only[aZ]at hc;obtain⟨ps,h1,rfl⟩:=hc;exact eE iK (Di hR hE hz hh.2 hu hh.1 h1 hK) (by simp[execOp,hop])
   ·cases hc
  ·rename_i z n el hz hu;split at hc
   ·rename_i hh;simp only[aC,fW]at hh;obtain⟨⟨fi,hi⟩,_⟩:=hh;simp only[aZ]at hc;obtain⟨ps,h1,rfl⟩:=hc;exact eE iK (FD hR hE hz hu hi h1 hK) (by simp[execOp,hop])
   ·cases hc
  ·cases hc
 case buildSlice t n parts =>
  split at hc
  ·rename_i el hu;split at hc
   ·rename_i bB z he hz;split at hc
    ·rename_i hh;simp only[aC,decide_eq_true_eq]at hh;simp only[aZ]at hc;obtain⟨ps,h1,rfl⟩:=hc;exact eE iK (OV hR hE hu he hz hh.1 hh.2 h1 hK) (by simp[execOp,hop])
    ·cases hc
   ·cases hc
  ·cases hc
 case load t x =>
  split at hc
  ·rename_i ag i ax hA hi h1;split at hc
   ·rename_i hh;cases hc;exact eE iK (Uf hR hA hi (fun e=>by simpa[e]using hh) (dB h1 hE) hK) (by simp[execOp,hop])
   ·cases hc
  ·cases hc
 case store t x y =>
  split at hc
  ·rename_i i ax ay hi h1 h2;cases hc;obtain⟨w',g',σ',r1,r2,r3,r4⟩:=Ri (P:=P) hR hi (dB h1 hE) (dB h2 hE) hK;refine rC iK ?_;have:(execOp a.eval o).run P w = .ok .skip w':=by simp[execOp,hop,r1]
   rw[this];exact⟨_,g',.bJ [],σ',rfl,r2,r3,.bJ [] #[] rfl (fun i hi=>absurd hi (dY _)),r4⟩
  ·cases hc
 case nilCheck x =>
  simp only[aZ]at hc;obtain⟨ax,h1,rfl⟩:=hc;obtain⟨v,w',g',av,σ',r1,r2,r3,r4,r5⟩:=Rl (P:=P) (K:=K) hop rfl hR (dB h1 hE) hK;exact nS iK r1 ⟨v,g',av,σ',rfl,r2,r3,r4,r5⟩
 case binOp op t x y yt =>
  have hs:∀ {K:AV->ae->Prop},cq P (do eqGuard op t x y (a.eval x) (a.eval y);binOp op t (a.eval x) (a.eval y)) g w σ K->o.wpIn (WF ro) wn P a w (Dn g w σ a o.dst K) (Iw g w σ a Kp):=fun hh =>
   eE iK hh (by simp[execOp,hop])
  split at hc
  ·rename_i ax ay h1 h2;have v1:=dB h1 hE;have v2:=dB h2 hE;split at hc
   ·cases hc;exact hs (Iq hR v1 v2 hK)
   ·cases hc;exact hs (Iq hR v1 v2 hK)
   ·rename_i d _ _ hu;split at hc
    ·rename_i k hk;split at hc
     ·rename_i hn;simp only[bO]at hn;split at hc
      ·cases hc;refine hs (FT (op:= .eql) (.inl rfl) hR hu hk hn v1 v2 ?_);simp only[bA.run]at hK;generalize rT k (AX.ev e ax) (AX.ev e ay)=r at hK ⊢;cases r<;>exact hK
      ·cases hc;refine hs (FT (op:= .neq) (.inr rfl) hR hu hk hn v1 v2 ?_);simp only[bA.run]at hK;generalize rT k (AX.ev e ax) (AX.ev e ay)=r at hK ⊢;cases r<;>exact hK
      ·cases hc
     ·cases hc
    ·split at hc
     ·rename_i ks ag i hf hA hi;split at hc
      ·rename_i hh;simp only[aC,beq_iff_eq,bO,cy]at hh
       have hg:ag=true->P.eqGuardType P.depth t=false:=fun e=>by
        rcases hh.2 with h|h
        ·rw[e]at h;cases h
        ·exact h
       split at hc
       ·cases hc;exact hs (L4 (op:= .eql) (.inl rfl) hR hf hA hi hh.1 hg v1 v2 hK)
       ·cases hc;exact hs (L4 (op:= .neq) (.inr rfl) hR hf hA hi hh.1 hg v1 v2 hK)
       ·cases hc
      ·cases hc
     ·cases hc
   ·cases hc
  ·cases hc
 case unOp op t x =>
  simp only[aZ]at hc;obtain⟨ax,h1,rfl⟩:=hc;exact eE iK (YA hR (dB h1 hE) hK) (by simp[execOp,hop])
 case convert s d x =>
  have hs:cq P (convert s d (a.eval x)) g w σ K->o.wpIn (WF ro) wn P a w (Dn g w σ a o.dst K) (Iw g w σ a Kp):=fun hh=>eE iK hh (by simp[execOp,hop]);split at hc
  ·rename_i k' k ax hs1 Ix h1;cases hc;exact hs (Ug hR hs1 Ix (dB h1 hE) hK)
  ·rename_i ax hs1 Ix h1;cases hc;have v1:=dB h1 hE;simp only[bA.run]at hK;generalize AX.ev e ax=z at v1 hK;cases z<;>simp only at hK;exact hs (Wd hR hs1 Ix v1 ⟨_,rfl⟩ hK)
  ·rename_i el ax hs1 Ix h1;split at hc
   ·rename_i i he hi;split at hc
    ·cases hc;have v1:=dB h1 hE;obtain⟨hn,hK⟩:=hK;refine hs (Wn hR hs1 Ix he v1 hK ?_);generalize AX.ev e ax=z at v1 hn hK;generalize a.eval x=xv at v1;cases v1<;>simp only[ja]at hK hn
     ·exact⟨_,_,_,rfl⟩
     ·exact⟨_,_,_,rfl⟩
     ·exact⟨_,_,_,rfl⟩
     ·rename_i h;obtain⟨_,_,A,cap,rfl,_⟩:=h;exact⟨_,_,_,rfl⟩
     ·exact⟨_,_,_,rfl⟩
    ·cases hc
   ·cases hc
  ·cases hc
 case makeInterface t x =>
  split at hc
  ·cases hc
  ·cases hc
  ·rename_i d h1 h2;simp only[aZ]at hc;obtain⟨ax,h3,rfl⟩:=hc;cases hu:P.underlying t with
   | none=>exact absurd hu h2
   | some d=>exact eE iK (Rm hR hu (fun ms e=>h1 ms (by rw[hu,e])) (dB h3 hE) hK) (by simp[execOp,hop])
 case makeFunc fn first cap =>
  split at hc
  ·rename_i az bs h1 h2;cases hc;obtain⟨a1,a2⟩:=uu h1 hE;obtain⟨b1,b2⟩:=uu h2 hE;exact yy iK (v:= .func fn (first.map a.eval) (cap.map a.eval)) hR (by simp[execOp,hop,Instr.makeFunc]) (.fn fn _ _ _ _ a1 b1 a2 b2) hK
  ·cases hc
 case slice t x lo hi mx =>
  split at hc
  ·rename_i ax al ah am h1 h2 h3 h4;have v1:=dB h1 hE
   have hm:am=none->mx=none:=fun e=>by
    cases mx with
    | none=>rfl
    | some m=>simp only[SK,Option.map_eq_some_iff]at h4;obtain⟨b,_,rfl⟩:=h4;cases e
   split at hc
   ·rename_i hu;split at hc
    ·rename_i hn;cases hc;have:mx=none:=hm (by simpa using hn);subst this;exact eE iK (Wf hR hu v1 (yz h2 hE) (yz h3 hE) hK) (by simp[execOp,hop])
    ·cases hc
   ·rename_i el hu;split at hc
    ·simp only[aZ]at hc;obtain⟨bB,he,rfl⟩:=hc;have:mx=none:=hm rfl;subst this;refine eE iK (Wh hR hu he v1 (yz h2 hE) (yz h3 hE) ?_) (by simp[execOp,hop]);simp only[bA.run]at hK;clear v1;generalize AX.ev e ax=z at hK ⊢;cases z<;>exact hK
    ·cases hc
   ·cases hc
  ·cases hc
 case fieldAddr s x f =>
  split at hc
  ·rename_i fs ax hu h1;simp only[Option.bind_eq_some_iff]at hc;obtain⟨fi,hf,hc⟩:=hc;split at hc
   ·cases hc
   ·rename_i h0;cases hc;cases hi:P.info? fi.type with
    | none=>simp[hi]at h0
    | some i=>exact eE iK (Rk hR hu hf hi (by simpa[hi]using h0) (dB h1 hE) hK) (by simp[execOp,hop])
  ·cases hc
 case field s x f =>
  split at hc
  ·rename_i fs ax hu h1;simp only[Option.bind_eq_some_iff]at hc;obtain⟨fi,hf,hc⟩:=hc;split at hc
   ·rename_i ag i hA hi;split at hc
    ·cases hc;exact eE iK (Rj hR hu hf hA hi (dB h1 hE) hK) (by simp[execOp,hop])
    ·cases hc
   ·cases hc
  ·cases hc
 case indexAddr t x y =>
  split at hc
  ·rename_i el ax ay hu h1 h2;simp only[aZ]at hc;obtain⟨bB,he,rfl⟩:=hc;refine eE iK (OP hR hu he (dB h1 hE) (dB h2 hE) ?_) (by simp[execOp,hop]);simp only[bA.run]at hK;generalize AX.ev e ax=z at hK ⊢;generalize AX.ev e ay=z' at hK ⊢;cases z'<;>simp only at hK ⊢;cases z<;>exact hK
  ·rename_i n el ax ay hu h1 h2;simp only[aZ]at hc;obtain⟨bB,he,rfl⟩:=hc;refine eE iK (OQ hR hu he (dB h1 hE) (dB h2 hE) ?_) (by simp[execOp,hop]);simp only[bA.run]at hK;generalize AX.ev e ax=z at hK ⊢;generalize AX.ev e ay=z' at hK ⊢;cases z'<;>simp only at hK ⊢;cases z<;>exact hK
  ·cases hc
 case index t x y =>
  split at hc
  ·rename_i ax ay hu h1 h2;cases hc;exact eE iK (Uh hR hu (dB h1 hE) (dB h2 hE) hK) (by simp[execOp,hop])
  ·rename_i n el ax ay hu h1 h2;simp only[aZ]at hc;obtain⟨bB,he,rfl⟩:=hc;exact eE iK (Ui hR hu he (dB h1 hE) (dB h2 hE) hK) (by simp[execOp,hop])
  ·cases hc
 case extract x i =>
  simp only[aZ]at hc;obtain⟨ax,h1,rfl⟩:=hc;exact eE iK (Nd hR (dB h1 hE) hK) (by simp[execOp,hop])
 case makeSlice t l c =>
  split at hc
  ·rename_i el al ac hu h1 h2;split at hc
   ·rename_i bB z he hz;cases hc;exact eE iK (Ng hR hu he hz (dB h1 hE) (dB h2 hE) hK) (by simp[execOp,hop])
   ·cases hc
  ·cases hc
 case range t x =>
  split at hc
  ·rename_i ht;simp only[aZ]at hc;obtain⟨ax,h1,rfl⟩:=hc;have hv:=dB h1 hE;simp only[bA.run]at hK;generalize AX.ev e ax=z at hv hK;generalize dI:a.eval x=xv at hv;cases hv<;>simp only at hK;rename_i s;obtain⟨r1,r2⟩:=hR.AY (.stringIter ⟨s.toArray⟩ 0) (.kS s 0) 1 0 ⟨by simp[aM.push],w.heap.size,by simp[aM.push],heap_alloc_new w _⟩;refine nS iK (v:= .pointer (some ⟨w.heap.size,0,none⟩)) (w':=w.alloc (.stringIter ⟨s.toArray⟩ 0)) ?_ ⟨_,_,_,_,rfl,r1,r2,.ref _ _ _ ⟨by simp[aM.push,hR.len],_,rfl,fun _=>⟨by simp[aM.push,hR.len],rfl⟩⟩,hK⟩;simp[execOp,hop,dI,Instr.range,bw ht,newObj,Sem.run]
  ·cases hc
 case next x b =>
  split at hc
  ·rename_i hb;simp only[aZ]at hc;obtain⟨ax,h1,rfl⟩:=hc;have hv:=dB h1 hE;simp only[bA.run]at hK;generalize AX.ev e ax=z at hv hK;split at hK
   ·split at hK
    ·rename_i l _ s pos hl;generalize dI:a.eval x=xv at hv;cases hv with
     | ref _ _ _ hO =>
       obtain⟨_,A,rfl,h2⟩:=hO;obtain⟨kp,bb,Iy,k9⟩:=hR.ok l _ hl;obtain⟨h3,h4⟩:=h2 kp;rw[Iy]at h3;cases h3;have hsz:(⟨s.toArray⟩:ByteArray).size=s.length:=rfl;split at hK
       ·rename_i hlt
        have hup:=hR.update (o':= .kS s (pos+(Utf8.decode ⟨s.toArray⟩ pos).2)) (w':= { w with heap:=w.heap.setIfInBounds A.block (.stringIter ⟨s.toArray⟩ (pos+(Utf8.decode ⟨s.toArray⟩ pos).2)) }) hl rfl Iy
         (by simp) rfl rfl rfl (fun c hc=>by simp[Array.getElem?_setIfInBounds,Ne.symm hc]) (fun _=>⟨kp,_,Iy,by have:=(gP.1 k9).1;simp[this]⟩)
        refine nS iK ?_ ⟨_,g,_,_,rfl,hup.1,hup.2,.bJ _ #[.bool true,.int .i64 pos,.int .i32 (Utf8.decode ⟨s.toArray⟩ pos).1] rfl (fun i hi=>?_),hK⟩
        ·rw[h4]at dI;have YJ:pos<(⟨s.toArray⟩:ByteArray).size:=hlt;simp only[execOp,hop,dI,Instr.next,getObj,setObj,Sem.run_bind,Sem.run,k9,Result.andThen,hb,YJ,if_true];have:=(gP.1 k9).1;simp[this,goInt]
        ·match i,hi with
         | 0,_=>exact .bool true
         | 1,_=>exact .int _ _
         | 2,_=>exact .int _ _
       ·rename_i hlt;refine nS iK (v:= .tuple #[.bool false]) (w':=w) ?_ ⟨_,g,_,_,rfl,hR,.refl _ _ _,.bJ _ _ rfl (fun i hi=>?_),hK⟩
        ·rw[h4]at dI;have YJ:¬ pos<(⟨s.toArray⟩:ByteArray).size:=hlt;simp only[execOp,hop,dI,Instr.next,getObj,setObj,Sem.run_bind,Sem.run,k9,Result.andThen,hb,YJ,if_false];rfl
        ·match i,hi with
         | 0,_=>exact .bool false
    ·exact hK.elim
   ·exact hK.elim
  ·cases hc
 case typeAssert x xt T ok =>
  split at hc
  ·cases hc
  ·cases hc
  ·rename_i d hd hu;split at hc
   ·rename_i ax z h1 hz;cases hc;exact eE iK (Wq (xt:=xt) hR hu (fun l e=>hd l e) hz (dB h1 hE) hK) (by simp[execOp,hop])
   ·cases hc
 case panic x =>
  simp only[aZ]at hc;obtain⟨ax,h1,rfl⟩:=hc;have v1:=dB h1 hE;simp only[bA.run]at hK;generalize AX.ev e ax=z at v1 hK;generalize dI:a.eval x=xv at v1;cases v1<;>simp only at hK;rename_i t b v h;refine rC iK ?_;have:(execOp a.eval o).run P w = .halt (.panic (.iface t v)) w:=by simp[execOp,hop,dI,Instr.panic]
  rw[this];exact⟨rfl,.iface t v,g,.k8 t b,σ,rfl,hR,.refl _ _ _,.k8 t b v h,hK⟩
 case call c =>
  obtain⟨callee,args,ats⟩:=c;simp only at hc;cases callee with
  | invoke r m =>
    simp only at hc;cases hc
  | value f =>
    simp only at hc;split at hc
    ·rename_i af az h1 h2
     have key:∃ q,(bA.call q af az).run P e σ K Kp:=by
      cases hc;exact YH hK
     clear hc hK;obtain⟨qq,hK⟩:=key;have v1:=dB h1 hE;simp only[bA.run]at hK;generalize AX.ev e af=z at v1 hK;generalize dI:a.eval f=fv at v1;by_cases Ck:∃ l,z = .tZ l
     ·obtain⟨l,rfl⟩:=Ck;cases v1;rename_i hy;obtain⟨hl,b,rfl,hb⟩:=hy;obtain⟨a1,a2⟩:=uu h2 hE;simp only at hK
      have both:∀ q:Bool,(if q then False else u7 P l (az.map (AX.ev e)) σ fun
       | .ret r,σ'=>K r σ'
       | .panic r,σ'=>Kp r σ')->o.wpIn (WF ro) wn P a w (Dn g w σ a o.dst K) (Iw g w σ a Kp):=fun q hK=>by
       cases q with
       | true=>exact(by simpa using hK:False).elim
       | false =>
       simp only[aI,if_false]at hK;refine YI iK (b:=b) (vs:=args.map a.eval) ?_ hR hb a1 a2 hK;simp only[execOp,hop,resolve,Sem.run_bind,dI,Deferred.ofValue,Sem.run_pure,Result.andThen_ok,invoke];simp
      exact both _ hK
     cases v1<;>(try exact hK.elim)
     case tZ=>exact absurd ⟨_,rfl⟩ Ck
     rename_i fn first cap first' cap' hl hl' hh OR
     cases fn<;>(try exact hK.elim);rename_i n;simp only at hK;obtain⟨a1,a2⟩:=uu h2 hE;obtain⟨b1,b2⟩:=Ba hl hh a1 a2;obtain⟨c1,c2⟩:=Ba b1 b2 hl' OR
     have hex:Has P n->(execOp a.eval o).run P w = .ok (.enter n (first'++args.map a.eval++cap')) w:=fun hb=>by
      simp only[execOp,hop,resolve,Sem.run_bind,dI,Deferred.ofValue,Sem.run_pure,Result.andThen_ok,invoke,Dp hb]
     have both:∀ q:Bool,(if q then ∃ r,(∀ τ,yp P n (first++az.map (AX.ev e)++cap) (σ++ τ) r)/\K r σ else eU P n (first++az.map (AX.ev e)++cap) σ fun
      | .ret r,σ'=>K r σ'
      | .panic r,σ'=>Kp r σ')->o.wpIn (WF ro) wn P a w (Dn g w σ a o.dst K) (Iw g w σ a Kp):=fun q hK=>by
      cases q with
      | true =>
        simp only[if_true]at hK;obtain⟨r,hq,hk⟩:=hK;have hq:=hq [];rw[bH]at hq;exact SS iK (hex hq.1) hR c1 c2 (hq.mono fun out σ' ⟨h1,h2⟩=>by subst h1;subst h2;exact hk)
      | false =>
        simp only[aI,if_false]at hK;exact SS iK (hex hK.1) hR c1 c2 hK
     exact both _ hK
    ·cases hc
  | builtin b =>
    have hs:∀ {s:Sem Value} {K:AV->ae->Prop},cq P s g w σ K->builtin b ats o.type (args.map fun | .const _=>true|_=>false) (args.map a.eval)=(do pure (.value (← s)):Sem Next)->o.wpIn (WF ro) wn P a w (Dn g w σ a o.dst K) (Iw g w σ a Kp):=fun hh hb=>by
     refine eE iK hh ?_;simp only[execOp,hop,resolve];exact hb
    cases b<;>simp only at hc<;>(try (cases hc;done))
    case len =>
     split at hc
     ·rename_i t x ht hx;have hargs:args = #[x]:=by rw[<-Array.toArray_toList (xs:=args),hx]
      subst hargs;split at hc
      ·rename_i hu;simp only[aZ]at hc;obtain⟨ax,h1,rfl⟩:=hc;refine hs (s:=Builtin.len_ ats o.type #[a.eval x]) (Uj hR ht hu (dB h1 hE) ?_) (by simp[builtin]);simp only[bA.run]at hK;generalize AX.ev e ax=z at hK ⊢;cases z<;>exact hK
      ·rename_i el hu;simp only[aZ]at hc;obtain⟨ax,h1,rfl⟩:=hc;refine hs (s:=Builtin.len_ ats o.type #[a.eval x]) (Uk hR ht hu (dB h1 hE) ?_) (by simp[builtin]);simp only[bA.run]at hK;generalize AX.ev e ax=z at hK ⊢;cases z<;>exact hK
      ·cases hc
     ·cases hc
    case append =>
     split at hc
     ·rename_i t u x y ht hu hx;have hargs:args = #[x,y]:=by rw[<-Array.toArray_toList (xs:=args),hx]
      subst hargs;split at hc
      ·rename_i el bB ax ay hu1 hu2 h1 h2;simp only[aZ]at hc;obtain⟨el2,he,rfl⟩:=hc;exact hs (s:=Builtin.append_ ats o.type #[a.eval x,a.eval y]) (L7 hR ht hu hu1 hu2 (by simp) he (dB h1 hE) (dB h2 hE) (Dd _ _) hK) (by simp[builtin])
      ·rename_i el ax ay hu1 hu2 h1 h2;simp only[aZ]at hc;obtain⟨el2,he,rfl⟩:=hc;exact hs (s:=Builtin.append_ ats o.type #[a.eval x,a.eval y]) (L7 hR ht hu hu1 hu2 (by simp) he (dB h1 hE) (dB h2 hE) (Dd _ _) hK) (by simp[builtin])
      ·cases hc
     ·cases hc
    case min =>
     split at hc
     ·rename_i ax az h1;cases hc;obtain⟨a1,a2⟩:=uu h1 hE;cases hl:args.toList with
      | nil=>rw[hl]at h1;cases h1
      | cons x xs =>
        have hargs:args=(x::xs).toArray:=by rw[<-Array.toArray_toList (xs:=args),hl]
        subst hargs;have v0:=a2 0 (by simp);refine hs (s:=Builtin.min_ ats o.type (a.eval x::xs.map a.eval).toArray) (Wi (x:=ax.ev e) (xs:=az.map (AX.ev e)) hR (by simpa using v0) (by simpa using a1) (fun i hi=>by simpa using a2 (i+1) (by simpa using hi)) hK) (by simp[builtin])
     ·cases hc
    case max =>
     split at hc
     ·rename_i ax az h1;cases hc;obtain⟨a1,a2⟩:=uu h1 hE;cases hl:args.toList with
      | nil=>rw[hl]at h1;cases h1
      | cons x xs =>
        have hargs:args=(x::xs).toArray:=by rw[<-Array.toArray_toList (xs:=args),hl]
        subst hargs;have v0:=a2 0 (by simp);refine hs (s:=Builtin.max_ ats o.type (a.eval x::xs.map a.eval).toArray) (Wj (x:=ax.ev e) (xs:=az.map (AX.ev e)) hR (by simpa using v0) (by simpa using a1) (fun i hi=>by simpa using a2 (i+1) (by simpa using hi)) hK) (by simp[builtin])
     ·cases hc
end
end Go.AM
namespace Go.AM
inductive ad2 where
 | normal
 | exit (id:Nat)
 | goto (l:Nat)
 | ret
 | panic (v:AV)
structure cz where
 op:bA
 dst:Option Nat
 guard:Option (Nat × Bool)
abbrev AQ:=ad2->Env->ae->Prop
def ef(P:Program)(Q:AQ): List cz->Env->ae->Prop
 | [],e,σ=>Q .normal e σ
 |⟨o,d,none⟩::r,e,σ=>o.run P e σ (fun v σ'=>ef P Q r (upd e d v) σ') (fun v σ'=>Q (.panic v) e σ')
 | ⟨o, d, some (k, b)⟩ :: r, e, σ => match e k with
   | .bool t => (t = b -> o.run P (upd e (some k) (.bool b)) σ (fun v σ' => ef P Q r (upd (upd e (some k) (.bool b)) d v) σ') (fun v σ' => Q (.panic v) (upd e (some k) (.bool b)) σ')) /\
      (t = !b->ef P Q r (upd (upd e (some k) (.bool (!b))) d (.bJ [])) σ)
   | .bJ []=>ef P Q r (upd e d (.bJ [])) σ
   | _=>False
inductive cY where
 | skip
 | region (ops:List cz)
 | draw (ops:List cz) (jS:List (AX × AX))
 | seq (a b:cY)
 | cond (c:AX) (thn els:cY)
 | block (id:Nat) (body:cY)
 | loop (body:cY)
 | exit (id:Nat)
 | ret
 | scope (l:Nat) (body rest:cY)
 | label (l:Nat)
 | goto (l:Nat)
 | mz (f:AX) (nt:Nat) (ps:List Nat) (ca cb:Code) (asg body:cY)
 | stop
def cY.mK: cY->Bool
 | .seq a b=>a.mK || b.mK
 | .cond _ a b=>a.mK || b.mK
 | .block _ a=>a.mK
 | .loop a=>a.mK
 | .scope _ a _=>a.mK
 | .mz ..=>true
 | _=>false
def Low(ac:cY)(B:Nat->Prop)(w:World): Prop:=ac.mK=true-> ∀ D,w.heap.size<=D->B D
def Low.size{ac:cY}{B:Nat->Prop}{w w':World}(h:Low ac B w)(hs:w.heap.size<=w'.heap.size): Low ac B w':=fun hr D hD=>h hr D (c_ hs hD)
def Low.sub{ac ad:cY}{B:Nat->Prop}{w:World}(h:Low ac B w)(hs:ad.mK=true->ac.mK=true): Low ad B w:=fun hr=>h (hs hr)
def Low.at(ac:cY)(w:World): Low ac (fun D=>w.heap.size<=D) w:=fun _ _ h=>h
def mg(K:Env->ae->Prop)(Q:AQ): AQ
 | .normal,e,σ=>K e σ
 | x,e,σ=>Q x e σ
def s7(id:Nat)(Q:AQ): AQ
 | .exit i,e,σ=>if i=id then Q .normal e σ else Q (.exit i) e σ
 | x,e,σ=>Q x e σ
def qb: List (AX × AX)->Env->Prop
 | [],_=>True
 |(x,y)::r,e=>rA (x.ev e) (y.ev e)/\qb r e
def Ws: AX × AX->Bool
 |(.c .j4,.c .j4)=>true
 | _=>false
def Ff(jS:List (AX × AX)): Bool:=jS.any Ws
def kf(jS:List (AX × AX))(Q:AQ): AQ
 | .normal,e,σ=>qb jS e/\Q .normal e σ
 | .panic v,e,σ=>if Ff jS then ∀ e',Q (.panic v) e' σ else Q (.panic v) e σ
 | x,e,σ=>Q x e σ
def YK{jS:List (AX × AX)}{Q:AQ}: ∀ {ex e σ},kf jS Q ex e σ->Q ex e σ:=fun {ex e σ} h=>by
 cases ex<;>first|exact h.2|exact h|skip
 simp only[kf]at h;split at h
 ·exact h e
 ·exact h
def Wt{jS:List (AX × AX)}{Q:AQ}(h:Ff jS=true){v:AV}{e e':Env}{σ : ae}: kf jS Q (.panic v) e σ->kf jS Q (.panic v) e' σ:=by
 simp only[kf,h,if_true];exact id
def aay(body:AQ->Env->ae->Prop)(Q:AQ)(e:Env)(σ : ae): Prop :=
 ∃(I:Nat->Env->ae->Prop),(∃ n,I n e σ)/\ ∀ n e σ,I n e σ->body (mg (fun e' σ'=> ∃ m,m<n/\I m e' σ') Q) e σ
def uQ(l:Nat)(J:Env->ae->Prop)(Q:AQ): AQ
 | .goto l',e,σ=>l'=l/\J e σ
 | x,e,σ=>Q x e σ
def Wu(l:Nat)(body rest:AQ->Env->ae->Prop)(Q:AQ)(e:Env)(σ : ae): Prop :=
 ∃(J:Nat->Env->ae->Prop),body (uQ l (fun e σ=> ∃ n,J n e σ) Q) e σ/\ ∀ n e σ,J n e σ->rest (uQ l (fun e' σ'=> ∃ m,m<n/\J m e' σ') Q) e σ
def SU: List Nat->List AV->Env->Env
 | p::ps,a::az,e=>SU ps az (upd e (some p) a)
 | _,_,e=>e
def afl(l:Nat)(o o':bE)(B:Env->ae->Prop): AQ
 | .normal,e,σ=>σ[l]? = some o/\B e (σ.set l o')
 | _,_,_=>False
def afm(l:Nat)(o:LoopState->Option Code->bE)(R:Out->ae->Prop): AQ
 | .normal,_,σ=>σ[l]? = some (o .busy none)/\R (.ret (.bool true)) (σ.set l (o .ready none))
 | .ret,_,σ=>σ[l]? = some (o .busy none)/\R (.ret (.bool false)) (σ.set l (o .done (some .ret)))
 | .exit i,_,σ=>σ[l]? = some (o .busy none)/\R (.ret (.bool false)) (σ.set l (o .done (some (.exit i))))
 | .goto i,_,σ=>σ[l]? = some (o .busy none)/\R (.ret (.bool false)) (σ.set l (o .done (some (.goto i))))
 | .panic _,_,_=>False
def afn(l:Nat)(o:LoopState->Option Code->bE)(Q:AQ)(e:Env): Out->ae->Prop
 | .ret _, σ => ∃ st pe, σ[l]? = some (o st pe) /\ st ≠ .busy /\ match pe with
    | none=>Q .normal e (σ.set l .dead)
    | some .ret=>Q .ret e (σ.set l .dead)
    | some (.exit i)=>Q (.exit i) e (σ.set l .dead)
    | some (.goto i)=>Q (.goto i) e (σ.set l .dead)
    | _=>False
 | .panic v,σ=>Q (.panic v) e σ
def Up(P:Program)(nt:Nat)(ps:List Nat)(ca cb:Code)(f:AV)(asg body:AQ->Env->ae->Prop)(Q:AQ)(e:Env)(σ : ae): Prop :=
 match f with
 | .fn (.func n) first cap => ∀ o : LoopState -> Option Code -> bE, (∀ st pe, o st pe = .loop nt e ps.toArray ca cb st pe) ->
    (∀ σ' args R, σ'[σ.length]? = some (o .ready none) -> args.length = ps.length ->
      asg (afl σ.length (o .ready none) (o .busy none) (body (afm σ.length o R))) (SU ps args e) σ'->u7 P σ.length args σ' R) ->
    eU P n (first++[.tZ σ.length]++cap) (σ++[o .ready none]) (afn σ.length o Q e)
 | _=>False
def iu(P:Program): cY->AQ->Env->ae->Prop
 | .skip,Q,e,σ=>Q .normal e σ
 | .region ops,Q,e,σ=>ef P Q ops e σ
 | .draw ops jS,Q,e,σ=>ef P (kf jS Q) ops e σ
 | .seq a b,Q,e,σ=>iu P a (mg (iu P b Q) Q) e σ
 | .cond c a b, Q, e, σ => match c.ev e with
   | .bool t=>(t=true->iu P a Q e σ)/\(t=false->iu P b Q e σ)
   | _=>False
 | .block id c,Q,e,σ=>iu P c (s7 id Q) e σ
 | .loop c,Q,e,σ=>aay (iu P c) Q e σ
 | .exit id,Q,e,σ=>Q (.exit id) e σ
 | .ret,Q,e,σ=>Q .ret e σ
 | .scope l c r,Q,e,σ=>Wu l (iu P c) (iu P r) Q e σ
 | .label _,Q,e,σ=>Q .normal e σ
 | .goto l,Q,e,σ=>Q (.goto l) e σ
 | .mz f nt ps ca cb asg body,Q,e,σ=>Up P nt ps ca cb (f.ev e) (iu P asg) (iu P body) Q e σ
 | .stop,_,_,_=>False
structure xh (B:Nat->Prop) (σ : ae) (g:aM) (w:World) (ds:List Deferred):Prop where
 nodup:ds.Nodup
 mark:∀ d ∈ ds,∃ D,d = { target:= .collected D,args:= #[] }/\B D/\w.heap[D]? = some (.deferred (some []))/\¬ nn σ g D/\¬ g.fM D
def xh.step{B:Nat->Prop}{σ σ':ae}{g g':aM}{w w':World}{ds:List Deferred}(h:xh B σ g w ds)(dI:fN σ g w σ' g' w'): xh B σ' g' w' ds:=by
 refine⟨h.nodup,fun d hd=>?_⟩;obtain⟨D,h1,h2,h3,h4,h5⟩:=h.mark d hd;have hlt:D<w.heap.size:=(gP.1 h3).1;exact⟨D,h1,h2,(dI.frame D hlt h4).trans h3,fun ht=>h4 (dI.LN D hlt ht),fun hi=>(dI.w5 D hlt hi).elim h5 h4⟩
def ku(X:List Deferred)(B:Nat->Prop)(σ : ae)(g:aM)(w:World)(ds:List Deferred): Prop:= ∃ ms,ds=ms++X/\xh B σ g w ms
def ku.nil(X:List Deferred)(B:Nat->Prop)(σ : ae)(g:aM)(w:World): ku X B σ g w X:=⟨[],rfl,List.nodup_nil,fun _ h=>by cases h⟩
def ku.step{X:List Deferred}{B:Nat->Prop}{σ σ':ae}{g g':aM}{w w':World}{ds:List Deferred}(h:ku X B σ g w ds)(dI:fN σ g w σ' g' w'): ku X B σ' g' w' ds :=
 let ⟨ms,h1,h2⟩:=h;⟨ms,h1,h2.step dI⟩
def QR(X:List Deferred)(nt:Nat)(B:Nat->Prop)(g:aM)(w:World)(σ : ae)(Q:AQ)(ex:Exit)(a:Act)(w':World): Prop :=
 ∃ g' e' σ', ku X B σ' g' w' a.defers /\ Rel g' w' σ' /\ f_ nt g' w' e' a.tmps /\ fN σ g w σ' g' w' /\
   match ex with
   | .normal=>Q .normal e' σ'
   | .exit id=>Q (.exit id) e' σ'
   | .goto l=>Q (.goto l) e' σ'
   | .ret=>Q .ret e' σ'
   | .panic chain=> ∃ v av,chain=[{ v,recovered:=false }]/\VR g' w' av v/\Q (.panic av) e' σ'
   | .outgrown=>False
section
variable {P:Program}
def Oper.GO {F : Fence} {wn : Nat} {o : Oper} {a : Act} {w : World} {K K' : Act -> World -> Prop} {Q Q' : Exit -> Act -> World -> Prop} (h : ∀ a w, K a w -> K' a w) (hq : ∀ e a w, Q e a w -> Q' e a w)
    (hh:o.wpIn F wn P a w K Q):o.wpIn F wn P a w K' Q':=by
 unfold Oper.wpIn at *;refine⟨hh.1,?_⟩
 replace hh:=hh.2
 generalize (o.semAt F.round a.eval).run P w=r at *;cases r with
 | ok n w' =>
   cases n<;>simp only[Oper.uponIn]at hh ⊢ <;>
    first
     | exact h _ _ hh
     | exact ⟨hh.1, CallsIn.mono hh.2 (fun e w'' he => by
        cases e<;>first
         | exact h _ _ he
         | exact hq _ _ _ he
         |(obtain⟨a0,w0,he⟩:=he;exact⟨a0,w0,hq _ _ _ he⟩))⟩
     | exact ⟨hh.1, RoundIn.mono hh.2 (fun e w'' he => by
        cases e<;>first
         | exact h _ _ he
         | exact hq _ _ _ he
         |(obtain⟨a0,w0,he⟩:=he;exact⟨a0,w0,hq _ _ _ he⟩))⟩
     | exact⟨hh.1,RowsIn.mono hh.2 (fun _ _ he=>h _ _ he)⟩
 | halt x w' =>
   cases x<;>simp only[Oper.uponIn]at hh ⊢<;>first
    | exact hq _ _ _ hh
    | exact hh
def put_defers(a:Act)(d:Option Tmp)(v:Value): (a.put d v).defers=a.defers:=by cases d<;>rfl
def L9 {nt : Nat} {g : aM} {w : World} {e : Env} {a : Act} {ops : Array Oper} {o : Oper} {k : Nat} {j : Nat} {b : Bool} (hE : f_ nt g w e a.tmps) (hg : o.guard = some (j, b)) (hd : (ops[j]?).bind (·.dst) = some k) (hk : k < nt) :
    (∀ t,e k = .bool t->Region.wanted o (yielded ops a.tmps)=(t==b))/\(e k = .bJ []->Region.wanted o (yielded ops a.tmps)=false):=by
 have hv:=hE.rel k hk;have hlt:k<a.tmps.size:=by rw[hE.size];exact hk
 have sn:a.tmps[k]? = some (a.tmps.getD k Go.undef):=by simp[hlt]
 constructor
 ·intro t ht;rw[ht]at hv;generalize a.tmps.getD k Go.undef=v at hv sn;cases hv;simp only[Region.wanted,hg,yielded,hd,Option.bind_some,sn];cases t<;>cases b<;>rfl
 ·intro ht;rw[ht]at hv;generalize a.tmps.getD k Go.undef=v at hv sn;cases hv;simp[Region.wanted,hg,yielded,hd,sn]
def f_.congr{nt:Nat}{g:aM}{w:World}{e:Env}{tmps:Array Value}(h:f_ nt g w e tmps){k:Nat}{x:AV}(hx:e k=x): f_ nt g w (upd e (some k) x) tmps :=
 ⟨h.size, fun t ht => by
   simp only[upd];split
   ·rename_i e1;subst e1;subst hx;exact h.rel _ ht
   ·exact h.rel t ht⟩
def lg(P:Program)(nt:Nat)(h:Hints)(dr:Bool)(all:Array Oper): List Oper->Option (List cz)
 | []=>some []
 | o :: r => match u_ P nt h dr o, lg P nt h dr all r with
   | some ao, some gs => match o.guard with
     | none=>some (⟨ao,o.dst,none⟩::gs)
     | some (j, b) => match (all[j]?).bind (·.dst) with
       | some k=>if k<nt then some (⟨ao,o.dst,some (k,b)⟩::gs)else none
       | none=>none
   | _,_=>none
def L_ {X : List Deferred} {ro : Option Nat} {wn : Nat} {nt : Nat} {h : Hints} {dr : Bool} {ops : Array Oper} {B : Nat -> Prop} {Q : AQ} {g0 : aM} {w0 : World} {mY : ae} : ∀ (l : List Oper) (i : Nat) (gs : List cz) (g : aM) (w : World) (σ : ae) (e : Env) (a : Act),
    lg P nt h dr ops l=some gs->(∀ j,j<l.length->ops[i+j]? = l[j]?)->ef P Q gs e σ->Rel g w σ->f_ nt g w e a.tmps->ku X B σ g w a.defers->fN mY g0 w0 σ g w ->
    Go.wpOpsIn (WF ro) wn P ops (QR X nt B g0 w0 mY Q) (List.range' i l.length) a w:=by
 intro l
 induction l with
 | nil =>
   intro i gs g w σ e a hc _ hw hR hE hd dI;cases hc;exact⟨g,e,σ,hd,hR,hE,dI,hw⟩
 | cons o l ih =>
   intro i gs g w σ e a hc hidx hw hR hE hd dI;have h0:ops[i]? = some o:=by simpa using hidx 0 (by simp)
   have Oj:∀ j,j<l.length->ops[i+1+j]? = l[j]?:=fun j hj=>by
    have:=hidx (j+1) (by simpa using hj);simpa[dF,Nat.add_comm 1 j]using this
   simp only[lg]at hc;split at hc
   ·rename_i ao gs' h1 h2
    have go:∀ (e1:Env),f_ nt g w e1 a.tmps->ao.run P e1 σ (fun v σ'=>ef P Q gs' (upd e1 o.dst v) σ') (fun v σ'=>Q (.panic v) e1 σ') ->
     o.wpIn (WF ro) wn P a w (Go.wpOpsIn (WF ro) wn P ops (QR X nt B g0 w0 mY Q) (List.range' (i+1) l.length)) (QR X nt B g0 w0 mY Q):=fun e1 xj hrun=>by
     refine Oper.GO ?_ ?_ (OW h1 hR xj hrun)
     ·rintro a' w' ⟨v,g',av,σ',rfl,r1,r2,r3,r4⟩;exact ih (i+1) gs' g' w' σ' (upd e1 o.dst av) (a.put o.dst v) h2 Oj r4 r1 ((xj.mono r2.mono).put o.dst r3) (by rw[put_defers];exact hd.step r2) (dI.trans r2)
     ·rintro ex a' w' ⟨rfl,v,g',av,σ',rfl,r1,r2,r3,r4⟩;exact⟨g',e1,σ',hd.step r2,r1,xj.mono r2.mono,dI.trans r2,v,av,rfl,r3,r4⟩
    have pass:∀ (e1:Env),f_ nt g w e1 a.tmps->ef P Q gs' (upd e1 o.dst (.bJ [])) σ->Go.wpOpsIn (WF ro) wn P ops (QR X nt B g0 w0 mY Q) (List.range' (i+1) l.length) (a.put o.dst Go.undef) w:=fun e1 xj hrun =>
     ih (i+1) gs' g w σ (upd e1 o.dst (.bJ [])) (a.put o.dst Go.undef) h2 Oj hrun hR (xj.put o.dst (.bJ [] #[] rfl (fun i hi=>absurd hi (dY _)))) (by rw[put_defers];exact hd) dI
    rw[List.length_cons,List.range'_succ,wpOpsIn_cons];unfold wpOpIn;simp only[h0];split at hc
    ·rename_i hg;cases hc;have Uq:Region.wanted o (yielded ops a.tmps)=true:=by simp[Region.wanted,hg]
     rw[if_pos Uq];exact go e hE hw
    ·rename_i j b hg;split at hc
     ·rename_i k hk;split at hc
      ·rename_i hlt;cases hc;obtain⟨w1,w2⟩:=L9 (ops:=ops) hE hg hk hlt;simp only[ef]at hw;split at hw
       ·rename_i t ht;have hwn:=w1 t ht;by_cases htb:t=b
        ·subst htb;rw[hwn,if_pos (by simp)];exact go _ (hE.congr ht) (hw.1 rfl)
        ·have:t = !b:=by cases t<;>cases b<;>simp_all
         rw[hwn,if_neg (by simpa using htb)];refine⟨fun _ _=>trivial,pass _ (hE.congr ?_) (hw.2 this)⟩;rw[ht,this]
       ·rename_i ht;rw[w2 ht,if_neg (by simp)];exact⟨fun _ _=>trivial,pass e hE hw⟩
       ·exact hw.elim
      ·cases hc
     ·cases hc
   ·cases hc
end
