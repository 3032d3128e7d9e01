/- Part of a proof: see Root. -/
import Derived.Test.YtmbgnaoilncbnaaGreatDoorZ28
set_option linter.unnecessarySimpa false
set_option linter.unusedSimpArgs false
set_option linter.unusedVariables false
namespace Go.Proofs.YtmbgnaoilncbnaaGreatDoor
open Go.AM
set_option maxRecDepth 4000
def gj(t:Table)(k:Nat): gY × Int × Int:=fY t (t.rules.getD k default)
def jv(t:Table)(n:Nat): List gY:=(List.range n).map fun k=>(gj t k).1
def HY: Ready:=⟨⟨[],[],[],0,0,[]⟩,[]⟩
def cI(t:Table): Ready × Int × Int × Int :=
 if e7 t≠0 then(HY,-1,0,e7 t)
 else match(List.range t.rules.length).find? (fun k=>(gj t k).2.2 != 0)with
 | some k=>(HY,k,(gj t k).2.1,(gj t k).2.2)
 | none=>(⟨t,jv t t.rules.length⟩,0,0,0)
def Pm(r:Ready × Int × Int × Int): AV:= .bJ [uC r.1,I r.2.1,I r.2.2.1,I r.2.2.2]
theorem MA(t:Table)(n:Nat): jv t (n+1)=jv t n++[(gj t n).1]:=by simp[jv,List.range_succ]
theorem qd(t:Table)(n:Nat): (jv t n).length=n:=by simp[jv]
theorem Ck{t:Table}(h:e7 t≠0): cI t=(HY,(-1:Int),(0:Int),e7 t):=by unfold cI;rw[if_pos h]
theorem MB{t:Table}(h0:e7 t=0){k:Nat}(hk:k<t.rules.length)(h:∀ j,j<k→(gj t j).2.2=0)(he:(gj t k).2.2≠0): cI t=(HY,(k:Int),(gj t k).2.1,(gj t k).2.2):=by
 unfold cI
 rw[if_neg (by omega),wo (i:=k) hk (fun j hj=>by simp[h j hj]) (by simp[he])]
theorem Ez{t:Table}(h0:e7 t=0)(h:∀ j,j<t.rules.length→(gj t j).2.2=0): cI t=((⟨t,jv t t.rules.length⟩:Ready),(0:Int),(0:Int),(0:Int)):=by
 unfold cI
 rw[if_neg (by omega),kF (fun j hj=>by simp[h j hj])]
theorem MC{t:Table}(h:e7 t=0): 0<t.ins.length:=by
 unfold e7 at h
 split at h
 ·omega
 split at h
 ·omega
 ·rename_i h1 h2
  exact(HV (by omega:g_ t.ins false=0)).2
theorem iW{σ : ai}{a E:AV}{n m k:Int}(h:View σ a E): aQ σ [a,I n,I m,I k] [E,I n,I m,I k]:= .cons h (.cons (.refl _ rfl) (.cons (.refl _ rfl) (.cons (.refl _ rfl) (.nil _))))
theorem y8(σ : ai): View σ (.agg [.str [],.ae,.ae,I 0,I 0,.ae,.ae]) (uC HY) :=
 View.mq (.cons (.refl _ rfl) (.cons (.ae _) (.cons (.ae _) (.cons (.refl _ rfl) (.cons (.refl _ rfl) (.cons (.ae _) (.cons (.ae _) (.nil _))))))))
set_option maxHeartbeats 4000000 in
theorem TZ(t:Table)(h:gU t): aq Tryz.prog xE [bI t] (Pm (cI t)):=by
 have cf:=Sq t h
 obtain⟨E,hE⟩:∃ E,Pm (cI t)=E:=⟨_,rfl⟩
 rw[hE]
 have hl:=fun(h0:0<t.ins.length) k (hk:k<t.rules.length)=>TY t (t.rules.getD k default) h.2.1.1 h.2.2.1.1 h0 (h.2.2.2.2 _ (aY hk))
 have Zu:=h.2.2.2.1
 simp only[bI,dc,bq,cQ]at cf hl ⊢
 by_cases hf:e7 t≠0
 ·have hm:=Ck hf
  obtain⟨f,EZ⟩:∃ f,e7 t=f:=⟨_,rfl⟩
  rw[EZ]at cf hm hf
  refine aq.of_nil (CM (by simp) ?_) (by simp)
  unfold xX aM
  intro Q aC aD aE
  repeat' first|refine aB ?_|refine aF cf ?_|refine aA (fun hw=>?_) (fun hw=>?_)<;>try omega|fail
  all_goals first
   | exact aZ
   |(rw[← hE,hm];exact bw (iW (y8 _)))
 have hf0:e7 t=0:=by omega
 have hi0:0<t.ins.length:=MC hf0
 rw[hf0]at cf
 replace hl:=hl hi0
 clear hf
 refine aq.of_nil (CM (by simp) ?_) (by simp)
 unfold xX aM
 intro Q aC aD aE
 repeat' first|refine aB ?_|refine aF cf ?_|refine aA (fun hw=>?_) (fun hw=>?_)<;>try omega|fail
 all_goals first|exact aZ|skip
 with_reducible refine a_ [3,4,5,8,9,10,11,12,24,25,26,27,28,29,30,31,32,33,34,35,36,37,38,39,40,41,42,43,44,45,46,47,48] (fun q:Nat × ai=>[(24,I q.1)]) (fun q=>q.2) (fun q=>q.1≤t.rules.length∧(∀ k,k<q.1→(gj t k).2.2=0)∧(q.1=0∧q.2=[.cells [.str t.name,.aG false EC (t.ins.map bp),.aG false EC (t.outs.map bp),I t.bl,I t.agg,.aG false ER (t.rules.map cj)],.cells [.str [],.ae,.ae,I 0,I 0,.ae,.ae],.cells [.str t.name,.aG false EC (t.ins.map bp),.aG false EC (t.outs.map bp),I t.bl,I t.agg,.aG false ER (t.rules.map cj),.ae]]∨0<q.1∧ ∃ b1 b2 τ,q.2 = .cells [.str t.name,.aG false EC (t.ins.map bp),.aG false EC (t.outs.map bp),I t.bl,I t.agg,.aG false ER (t.rules.map cj)]:: .cells [.str [],.ae,.ae,I 0,I 0,.ae,.ae]:: .cells [.str t.name,.aG false EC (t.ins.map bp),.aG false EC (t.outs.map bp),I t.bl,I t.agg,.aG false ER (t.rules.map cj),.own ER 5 q.1 0 q.1]::b1::b2:: .vec ER ((jv t q.1).map ku):: τ)) (fun q=>t.rules.length-q.1) (0,_) ⟨Nat.zero_le _,fun k hk=>by omega,.inl ⟨rfl,rfl⟩⟩ rfl ?_ ?_
 ·exact at_
 rintro⟨k,S⟩ rr ⟨h1,h2,h3⟩
 dsimp only at h1 h2 h3
 by_cases tJ:k<t.rules.length
 ·have c:=hl k tJ
  have fR:=fun he=>MB hf0 tJ h2 he
  have c_:=MA t k
  have c9:=qd t k
  have hb2:=fun he=>aW (q:=fun j=>(gj t j).2.2=0) h2 he
  have hlr:gj t k=fY t (t.rules.getD k default):=rfl
  obtain⟨a,ha⟩:∃ a,gj t k=a:=⟨_,rfl⟩
  rw[ha]at fR c_ hb2 hlr
  rw[← hlr]at c
  obtain⟨ru,MD⟩:∃ ru,t.rules.getD k default=ru:=⟨_,rfl⟩
  rw[MD]at c
  clear hlr
  simp only[UW,ku,n8,bP,cj,dS]at c
  rcases h3 with⟨rfl,rfl⟩|⟨hk,b1,b2,τ,rfl⟩
  ·repeat' first|simp (disch:=omega) only[go_sem,aC,aD,aE,aj,au,ak,Nat.reduceAdd,Nat.reduceBEq,↓reduceIte,MD]|refine aB ?_|refine aF c ?_|refine aA (fun hw=>?_) (fun hw=>?_)<;>try omega|fail
   ·rw[← hE,fR (by assumption)]
    exact bw (iW (y8 _))
   ·refine⟨(1,[.cells [.str t.name,.aG false EC (t.ins.map bp),.aG false EC (t.outs.map bp),I t.bl,I t.agg,.aG false ER (t.rules.map cj)],.cells [.str [],.ae,.ae,I 0,I 0,.ae,.ae],.cells [.str t.name,.aG false EC (t.ins.map bp),.aG false EC (t.outs.map bp),I t.bl,I t.agg,.aG false ER (t.rules.map cj),.own ER 5 1 0 1],.cells [.aG false E1 (ru.cells.map cy),.aG false E1 (ru.outs.map cy)],.cells [.aG false EC (a.1.cells.map br),.aG false EX (a.1.outs.map aJ)],.vec ER [.agg [.aG false EC (a.1.cells.map br),.aG false EX (a.1.outs.map aJ)]]]),?_,?_,?_,bG,at_⟩<;>(try dsimp only)
    ·refine⟨by omega,hb2 (by assumption),.inr ⟨by omega,.cells [.aG false E1 (ru.cells.map cy),.aG false E1 (ru.outs.map cy)],.cells [.aG false EC (a.1.cells.map br),.aG false EX (a.1.outs.map aJ)],[],?_⟩⟩
     rw[c_];rfl
    ·omega
    all_goals first|rfl|(simp[go_sem];done)
  ·obtain⟨L,hL⟩:∃ L,jv t k=L:=⟨_,rfl⟩
   rw[hL]at c9 c_
   simp only[hL]
   repeat' first|simp (disch:=omega) only[go_sem,aC,aD,aE,aj,au,ak,Nat.reduceAdd,Nat.reduceBEq,↓reduceIte,MD,c9]|refine aB ?_|refine aF c ?_|refine aA (fun hw=>?_) (fun hw=>?_)<;>try omega|fail
   ·rw[← hE,fR (by assumption)]
    exact bw (iW (y8 _))
   ·refine⟨(k+1,.cells [.str t.name,.aG false EC (t.ins.map bp),.aG false EC (t.outs.map bp),I t.bl,I t.agg,.aG false ER (t.rules.map cj)]:: .cells [.str [],.ae,.ae,I 0,I 0,.ae,.ae]:: .cells [.str t.name,.aG false EC (t.ins.map bp),.aG false EC (t.outs.map bp),I t.bl,I t.agg,.aG false ER (t.rules.map cj),.own ER 5 (k+1) 0 (k+1)]::b1::b2:: .vec ER (L.map ku++[.agg [.aG false EC (a.1.cells.map br),.aG false EX (a.1.outs.map aJ)]])::(τ++[.cells [.aG false E1 (ru.cells.map cy),.aG false E1 (ru.outs.map cy)]]++[.cells [.aG false EC (a.1.cells.map br),.aG false EX (a.1.outs.map aJ)]])),?_,?_,?_,bG,at_⟩<;>(try dsimp only)
    ·refine⟨by omega,hb2 (by assumption),.inr ⟨by omega,b1,b2,τ++[.cells [.aG false E1 (ru.cells.map cy),.aG false E1 (ru.outs.map cy)]]++[.cells [.aG false EC (a.1.cells.map br),.aG false EX (a.1.outs.map aJ)]],?_⟩⟩
     rw[c_,List.map_append];(first|rfl|(simp[ku,n8,bP];done))
    ·omega
    all_goals first|rfl|(simp[go_sem];done)
 ·obtain rfl:k=t.rules.length:=by omega
  have hok:=Ez hf0 h2
  rcases h3 with⟨h0,rfl⟩|⟨hk,b1,b2,τ,rfl⟩
  ·repeat' first|refine aB ?_|refine aA (fun hw=>?_) (fun hw=>?_)<;>try omega|fail
   rw[← hE,hok,h0]
   exact bw (iW (View.mq (.cons (.refl _ rfl) (.cons (.refl _ (dh _)) (.cons (.refl _ (dh _)) (.cons (.refl _ rfl) (.cons (.refl _ rfl) (.cons (.refl _ (l8 _)) (.cons (.ae _) (.nil _))))))))))
  ·have c9:=qd t t.rules.length
   obtain⟨L,hL⟩:∃ L,jv t t.rules.length=L:=⟨_,rfl⟩
   rw[hL]at c9 hok
   simp only[hL]
   repeat' first|simp (disch:=omega) only[go_sem,aC,aD,aE,aj,au,ak,Nat.reduceAdd,Nat.reduceBEq,↓reduceIte,c9]|refine aB ?_|refine aA (fun hw=>?_) (fun hw=>?_)<;>try omega|fail
   rw[← hE,hok]
   exact bw (iW (View.mq (.cons (.refl _ rfl) (.cons (.refl _ (dh _)) (.cons (.refl _ (dh _)) (.cons (.refl _ rfl) (.cons (.refl _ rfl) (.cons (.refl _ (l8 _)) (.cons (View.vec rfl (by simp[c9]) (by simp[c9]) (Ho _)) (.nil _))))))))))
set_option maxHeartbeats 4000000 in
theorem Wp(t:Table)(h:gU t): aq Tryz.prog zF [bI t] (Pm (cI t)):=by
 have cf:=TV t h
 obtain⟨E,hE⟩:∃ E,Pm (cI t)=E:=⟨_,rfl⟩
 rw[hE]
 have hl:=fun(h0:0<t.ins.length) k (hk:k<t.rules.length)=>Wo t (t.rules.getD k default) h.2.1.1 h.2.2.1.1 h0 (h.2.2.2.2 _ (aY hk))
 have Zu:=h.2.2.2.1
 simp only[bI,dc,bq,cQ]at cf hl ⊢
 by_cases hf:e7 t≠0
 ·have hm:=Ck hf
  obtain⟨f,EZ⟩:∃ f,e7 t=f:=⟨_,rfl⟩
  rw[EZ]at cf hm hf
  refine aq.of_nil (E_ (by simp) ?_) (by simp)
  unfold Ab aM
  intro Q aC aD aE
  repeat' first|refine aB ?_|refine aF cf ?_|refine aA (fun hw=>?_) (fun hw=>?_)<;>try omega|fail
  all_goals first
   | exact aZ
   |(rw[← hE,hm];exact bw (iW (y8 _)))
 have hf0:e7 t=0:=by omega
 have hi0:0<t.ins.length:=MC hf0
 rw[hf0]at cf
 replace hl:=hl hi0
 clear hf
 refine aq.of_nil (E_ (by simp) ?_) (by simp)
 unfold Ab aM
 intro Q aC aD aE
 repeat' first|refine aB ?_|refine aF cf ?_|refine aA (fun hw=>?_) (fun hw=>?_)<;>try omega|fail
 all_goals first|exact aZ|skip
 with_reducible refine a_ [3,4,5,8,9,10,11,20,21,22,23,24,25,26,27,28,29,30,31,32,33,34,35,36,37,38,39,40,41,42,43,44,45,46,47,48,49] (fun q:Nat × ai=>[(8,I q.1)]) (fun q=>q.2) (fun q=>q.1≤t.rules.length∧(∀ k,k<q.1→(gj t k).2.2=0)∧(q.1=0∧q.2=[.cells [.str t.name,.aG false EC (t.ins.map bp),.aG false EC (t.outs.map bp),I t.bl,I t.agg,.aG false ER (t.rules.map cj)],.cells [.str [],.ae,.ae,I 0,I 0,.ae,.ae],.cells [.str t.name,.aG false EC (t.ins.map bp),.aG false EC (t.outs.map bp),I t.bl,I t.agg,.aG false ER (t.rules.map cj),.ae]]∨0<q.1∧ ∃ b1 τ,q.2 = .cells [.str t.name,.aG false EC (t.ins.map bp),.aG false EC (t.outs.map bp),I t.bl,I t.agg,.aG false ER (t.rules.map cj)]:: .cells [.str [],.ae,.ae,I 0,I 0,.ae,.ae]:: .cells [.str t.name,.aG false EC (t.ins.map bp),.aG false EC (t.outs.map bp),I t.bl,I t.agg,.aG false ER (t.rules.map cj),.own ER 4 q.1 0 q.1]::b1:: .vec ER ((jv t q.1).map ku):: τ)) (fun q=>t.rules.length-q.1) (0,_) ⟨Nat.zero_le _,fun k hk=>by omega,.inl ⟨rfl,rfl⟩⟩ rfl ?_ ?_
 ·exact at_
 rintro⟨k,S⟩ rr ⟨h1,h2,h3⟩
 dsimp only at h1 h2 h3
 by_cases tJ:k<t.rules.length
 ·have c:=hl k tJ
  have fR:=fun he=>MB hf0 tJ h2 he
  have c_:=MA t k
  have c9:=qd t k
  have hb2:=fun he=>aW (q:=fun j=>(gj t j).2.2=0) h2 he
  have hlr:gj t k=fY t (t.rules.getD k default):=rfl
  obtain⟨a,ha⟩:∃ a,gj t k=a:=⟨_,rfl⟩
  rw[ha]at fR c_ hb2 hlr
  rw[← hlr]at c
  obtain⟨ru,MD⟩:∃ ru,t.rules.getD k default=ru:=⟨_,rfl⟩
  rw[MD]at c
  clear hlr
  simp only[UW,ku,n8,bP,cj,dS]at c
  rcases h3 with⟨rfl,rfl⟩|⟨hk,b1,τ,rfl⟩
  ·repeat' first|simp (disch:=omega) only[go_sem,aC,aD,aE,aj,au,ak,Nat.reduceAdd,Nat.reduceBEq,↓reduceIte,MD]|refine aB ?_|refine aF c ?_|refine aA (fun hw=>?_) (fun hw=>?_)<;>try omega|fail
   ·rw[← hE,fR (by assumption)]
    exact bw (iW (y8 _))
   ·refine⟨(1,[.cells [.str t.name,.aG false EC (t.ins.map bp),.aG false EC (t.outs.map bp),I t.bl,I t.agg,.aG false ER (t.rules.map cj)],.cells [.str [],.ae,.ae,I 0,I 0,.ae,.ae],.cells [.str t.name,.aG false EC (t.ins.map bp),.aG false EC (t.outs.map bp),I t.bl,I t.agg,.aG false ER (t.rules.map cj),.own ER 4 1 0 1],.cells [.aG false EC (a.1.cells.map br),.aG false EX (a.1.outs.map aJ)],.vec ER [.agg [.aG false EC (a.1.cells.map br),.aG false EX (a.1.outs.map aJ)]]]),?_,?_,?_,bG,at_⟩<;>(try dsimp only)
    ·refine⟨by omega,hb2 (by assumption),.inr ⟨by omega,.cells [.aG false EC (a.1.cells.map br),.aG false EX (a.1.outs.map aJ)],[],?_⟩⟩
     rw[c_];rfl
    ·omega
    all_goals first|rfl|(simp[go_sem];done)
  ·obtain⟨L,hL⟩:∃ L,jv t k=L:=⟨_,rfl⟩
   rw[hL]at c9 c_
   simp only[hL]
   repeat' first|simp (disch:=omega) only[go_sem,aC,aD,aE,aj,au,ak,Nat.reduceAdd,Nat.reduceBEq,↓reduceIte,MD,c9]|refine aB ?_|refine aF c ?_|refine aA (fun hw=>?_) (fun hw=>?_)<;>try omega|fail
   ·rw[← hE,fR (by assumption)]
    exact bw (iW (y8 _))
   ·refine⟨(k+1,.cells [.str t.name,.aG false EC (t.ins.map bp),.aG false EC (t.outs.map bp),I t.bl,I t.agg,.aG false ER (t.rules.map cj)]:: .cells [.str [],.ae,.ae,I 0,I 0,.ae,.ae]:: .cells [.str t.name,.aG false EC (t.ins.map bp),.aG false EC (t.outs.map bp),I t.bl,I t.agg,.aG false ER (t.rules.map cj),.own ER 4 (k+1) 0 (k+1)]::b1:: .vec ER (L.map ku++[.agg [.aG false EC (a.1.cells.map br),.aG false EX (a.1.outs.map aJ)]])::(τ++[.cells [.aG false EC (a.1.cells.map br),.aG false EX (a.1.outs.map aJ)]])),?_,?_,?_,bG,at_⟩<;>(try dsimp only)
    ·refine⟨by omega,hb2 (by assumption),.inr ⟨by omega,b1,τ++[.cells [.aG false EC (a.1.cells.map br),.aG false EX (a.1.outs.map aJ)]],?_⟩⟩
     rw[c_,List.map_append];(first|rfl|(simp[ku,n8,bP];done))
    ·omega
    all_goals first|rfl|(simp[go_sem];done)
 ·obtain rfl:k=t.rules.length:=by omega
  have hok:=Ez hf0 h2
  rcases h3 with⟨h0,rfl⟩|⟨hk,b1,τ,rfl⟩
  ·repeat' first|refine aB ?_|refine aA (fun hw=>?_) (fun hw=>?_)<;>try omega|fail
   rw[← hE,hok,h0]
   exact bw (iW (View.mq (.cons (.refl _ rfl) (.cons (.refl _ (dh _)) (.cons (.refl _ (dh _)) (.cons (.refl _ rfl) (.cons (.refl _ rfl) (.cons (.refl _ (l8 _)) (.cons (.ae _) (.nil _))))))))))
  ·have c9:=qd t t.rules.length
   obtain⟨L,hL⟩:∃ L,jv t t.rules.length=L:=⟨_,rfl⟩
   rw[hL]at c9 hok
   simp only[hL]
   repeat' first|simp (disch:=omega) only[go_sem,aC,aD,aE,aj,au,ak,Nat.reduceAdd,Nat.reduceBEq,↓reduceIte,c9]|refine aB ?_|refine aA (fun hw=>?_) (fun hw=>?_)<;>try omega|fail
   rw[← hE,hok]
   exact bw (iW (View.mq (.cons (.refl _ rfl) (.cons (.refl _ (dh _)) (.cons (.refl _ (dh _)) (.cons (.refl _ rfl) (.cons (.refl _ rfl) (.cons (.refl _ (l8 _)) (.cons (View.vec rfl (by simp[c9]) (by simp[c9]) (Ho _)) (.nil _))))))))))
def fc(a b:bV): Bool:=a.name==b.name && decide (a.kind=b.kind) && fh (fun x y=>x==y) a.order b.order
def hU(a b:cK): Bool:=fh (fun x y=>x==y) a.cells b.cells && fh (fun x y=>x==y) a.outs b.outs
def ik(a b:Table): Bool:=a.name==b.name && decide (a.bl=b.bl) && decide (a.agg=b.agg) && fh fc a.ins b.ins && fh fc a.outs b.outs && fh hU a.rules b.rules
def HZ(l:List bV): Prop:=l.length≤2 ^ 60∧ ∀ c ∈ l,c.order.length≤2 ^ 60
def Sr(r:cK): Prop:=r.cells.length≤2 ^ 60∧r.outs.length≤2 ^ 60
def EA(t:Table): Prop:=HZ t.ins∧HZ t.outs∧t.rules.length≤2 ^ 60∧ ∀ r ∈ t.rules,Sr r
theorem yy(a b:bV)(ha:a.order.length≤2 ^ 60)(hb:b.order.length≤2 ^ 60): aq Tryz.prog gF [bp a,bp b] (.bool (fc a b)):=by
 have c:=HS a.order b.order ha hb
 have hS:fc a b=(a.name==b.name && decide (a.kind=b.kind) && fh (fun x y=>x==y) a.order b.order):=rfl
 rw[hS]
 clear hS
 generalize fh (fun x y=>x==y) a.order b.order=v at *
 simp only[bp,dH]at c ⊢
 refine aq.of_nil (D3 (by simp) ?_) (by simp)
 unfold ve aM
 intro Q aC aD aE
 repeat' first|refine aB ?_|refine aF c ?_|refine aA (fun hw=>?_) (fun hw=>?_)<;>try omega|fail
 all_goals (refine aL ?_ rfl;refine congrArg AV.bool ?_;rw[Bool.eq_iff_iff];simp_all)
theorem ME(a b:cK)(ha:Sr a)(hb:Sr b): aq Tryz.prog mF [cj a,cj b] (.bool (hU a b)):=by
 have c1:=vu a.cells b.cells ha.1 hb.1
 have c2:=vu a.outs b.outs ha.2 hb.2
 have hS:hU a b=(fh (fun x y=>x==y) a.cells b.cells && fh (fun x y=>x==y) a.outs b.outs):=rfl
 rw[hS]
 clear hS
 generalize fh (fun x y=>x==y) a.cells b.cells=v at *
 generalize fh (fun x y=>x==y) a.outs b.outs=u at *
 simp only[cj,dS]at c1 c2 ⊢
 refine aq.of_nil (GG (by simp) ?_) (by simp)
 unfold yl aM
 intro Q aC aD aE
 repeat' first|refine aB ?_|refine aF c1 ?_|refine aF c2 ?_|refine aA (fun hw=>?_) (fun hw=>?_)<;>try omega|fail
 all_goals (refine aL ?_ rfl;refine congrArg AV.bool ?_;rw[Bool.eq_iff_iff];simp_all)
theorem yz(l m:List bV)(hl:HZ l)(hm:HZ m): aq Tryz.prog lj [bq l,bq m] (.bool (fh fc l m)):=by
 obtain⟨hl1,JL⟩:=hl
 obtain⟨wT,Gm⟩:=hm
 simp only[bq]
 refine aq.of_nil (D2 (by simp) ?_) (by simp)
 unfold u_ aM
 intro Q aC aD aE
 repeat' first|refine aB ?_|refine aA (fun hw=>?_) (fun hw=>?_)<;>try omega|fail
 ·refine aL ?_ rfl
  rw[mT (by omega)]
 have hlm:l.length=m.length:=by omega
 with_reducible refine a_ [4,5,11,12,13,14,15,16,17,18,19,20,21,22,23,24,25,26,27,28,29,30,31,32,33,34,35,36,37,38,39,40,41,42,43,44,45,46,47,48,49,50,51,52,53,54] (fun i:Nat=>[(5,I i)]) (fun _=>[]) (fun i=>i≤l.length∧ ∀ k,k<i→fc (l.getD k default) (m.getD k default)=true) (fun i=>l.length-i) (0) ?_ ?_ ?_ ?_
 ·simp
 ·rfl
 ·exact at_
 rintro i r ⟨h1,h2⟩
 by_cases hi:i<l.length
 ·have hi':i<m.length:=by omega
  have hne:fc (l.getD i default) (m.getD i default)=false→fh fc l m=false:=fun h=>pV hi h hi'
  have cu:=fun he=>aW h2 (i:=i) he
  have c:=Qu (l.getD i default).order (m.getD i default).order (JL _ (aY hi)) (Gm _ (aY hi'))
  obtain⟨a,haq⟩:∃ t,l.getD i default=t:=⟨_,rfl⟩
  obtain⟨b,hbq⟩:∃ t,m.getD i default=t:=⟨_,rfl⟩
  rw[haq]at hne cu c
  rw[hbq]at hne cu c
  simp only[fc]at hne cu
  generalize fh (fun x y=>x==y) a.order b.order=v at *
  simp only[dH]at c
  repeat' first|simp (disch:=omega) only[go_sem,aC,aD,aE,aj,au,ak,Nat.reduceAdd,Nat.reduceBEq,↓reduceIte,haq,hbq]|refine aB ?_|refine aF c ?_|refine aA (fun hw=>?_) (fun hw=>?_)<;>try omega|fail
  all_goals first
   |(refine aL ?_ rfl;rw[hne (by clear hne cu;simp_all)];done)
   | (refine ⟨i + 1, ?_, ?_, ?_, bG, at_⟩ <;> (try dsimp only)
      ·exact⟨by omega,cu (by clear hne cu;simp_all)⟩
      ·omega
      all_goals (first|rfl|(simp[go_sem];done)))
   | exact aZ
 ·repeat' first|refine aB ?_|refine aA (fun hw=>?_) (fun hw=>?_)<;>try omega|fail
  refine aL ?_ rfl
  rw[mU hlm (fun k hk=>h2 k (by omega))]
theorem T0(a b:Table)(ha:EA a)(hb:EA b): aq Tryz.prog xC [bI a,bI b] (.bool (ik a b)):=by
 have c1:=rf gF [] rfl fc a.ins b.ins (fun k h1 h2=>yy _ _ (ha.1.2 _ (aY h1)) (hb.1.2 _ (aY h2))) (by have:=ha.1.1;omega) (by have:=hb.1.1;omega)
 have c2:=rf gF [] rfl fc a.outs b.outs (fun k h1 h2=>yy _ _ (ha.2.1.2 _ (aY h1)) (hb.2.1.2 _ (aY h2))) (by have:=ha.2.1.1;omega) (by have:=hb.2.1.1;omega)
 have c3:=Dl mF [] rfl hU a.rules b.rules (fun k h1 h2=>ME _ _ (ha.2.2.2 _ (aY h1)) (hb.2.2.2 _ (aY h2))) (by have:=ha.2.2.1;omega) (by have:=hb.2.2.1;omega)
 have hS:ik a b=(a.name==b.name && decide (a.bl=b.bl) && decide (a.agg=b.agg) && fh fc a.ins b.ins && fh fc a.outs b.outs && fh hU a.rules b.rules):=rfl
 generalize fh fc a.ins b.ins=v1 at *
 generalize fh fc a.outs b.outs=v2 at *
 generalize fh hU a.rules b.rules=v3 at *
 obtain⟨E,hE⟩:∃ E,ik a b=E:=⟨_,rfl⟩
 rw[hE]at hS ⊢
 clear hE
 simp only[bI,dc,bq,cQ]at c1 c2 c3 ⊢
 refine aq.of_nil (Nz (by simp) ?_) (by simp)
 unfold E9 aM
 intro Q aC aD aE
 dsimp (config:= { zeta:=true }) only
 repeat' first|refine aB ?_|refine aF c1 ?_|refine aF c2 ?_|refine aF c3 ?_|refine aA (fun hw=>?_) (fun hw=>?_)<;>try omega|fail
 all_goals first
  | exact aZ
  |(refine aL ?_ rfl;refine congrArg AV.bool ?_;rw[hS,Bool.eq_iff_iff];simp_all;done)
theorem mg(a b:Table)(ha:EA a)(hb:EA b): aq Tryz.prog gL [bI a,bI b] (.bool (ik a b)):=by
 obtain⟨a1,a2,a3,a4⟩:=ha
 obtain⟨b1,b2,b3,b4⟩:=hb
 have c1:=yz a.ins b.ins a1 b1
 have c2:=yz a.outs b.outs a2 b2
 obtain⟨E,hE⟩:∃ E,ik a b=E:=⟨_,rfl⟩
 rw[hE]
 have hS:(a.name==b.name && decide (a.bl=b.bl) && decide (a.agg=b.agg) && fh fc a.ins b.ins && fh fc a.outs b.outs && fh hU a.rules b.rules)=E:=hE
 clear hE
 generalize fh fc a.ins b.ins=v1 at c1 hS
 generalize fh fc a.outs b.outs=v2 at c2 hS
 simp only[bI,dc,bq,cQ]at c1 c2 ⊢
 by_cases h0:a.name=b.name∧a.bl=b.bl∧a.agg=b.agg∧a.rules.length=b.rules.length
 case neg =>
  have hE:E=false:=by
   rw[← hS,Bool.eq_false_iff]
   intro h
   simp only[Bool.and_eq_true,beq_iff_eq,decide_eq_true_eq]at h
   obtain⟨⟨⟨⟨⟨g1,g2⟩,g3⟩,g4⟩,g5⟩,g6⟩:=h
   refine h0 ⟨g1,g2,g3,?_⟩
   by_cases hl:a.rules.length=b.rules.length
   ·exact hl
   ·rw[mT hl]at g6;cases g6
  subst hE
  clear hS c1 c2
  refine aq.of_nil (E6 (by simp) ?_) (by simp)
  unfold zX aM
  intro Q aC aD aE
  repeat' first|refine aB ?_|refine aA (fun hw=>?_) (fun hw=>?_)<;>try omega|fail
  all_goals first
   | exact aL rfl rfl
   | exact aZ
   |(exfalso;apply h0;refine⟨?_,?_,?_,?_⟩<;>first|assumption|omega|simp_all)
 obtain⟨g1,g2,g3,hlm⟩:=h0
 rw[g1,g2,g3,beq_self_eq_true,decide_eq_true rfl,decide_eq_true rfl,Bool.true_and,Bool.true_and,Bool.true_and]at hS
 refine aq.of_nil (E6 (by simp) ?_) (by simp)
 unfold zX aM
 intro Q aC aD aE
 repeat' first|simp (disch:=omega) only[go_sem,aC,aD,aE,aj,au,ak,Nat.reduceAdd,Nat.reduceBEq,↓reduceIte,g1,g2,g3]|refine aB ?_|refine aA (fun hw=>?_) (fun hw=>?_)<;>try omega|fail
 all_goals first|(exfalso;omega)|exact aZ|skip
 with_reducible refine a_ [4,5,34,35,36,37,38,39,40,41,42,43,44,45,46,47,48,49,50,51,52,53,54,55,56,57,58,59,60,61,62,63,64,65,66,67,68,69,70] (fun i:Nat=>[(5,I i)]) (fun _=>[.cells [.str b.name,.aG false EC (a.ins.map bp),.aG false EC (a.outs.map bp),I b.bl,I b.agg,.aG false ER (a.rules.map cj)],.cells [.str b.name,.aG false EC (b.ins.map bp),.aG false EC (b.outs.map bp),I b.bl,I b.agg,.aG false ER (b.rules.map cj)]]) (fun i=>i≤a.rules.length∧ ∀ k,k<i→hU (a.rules.getD k default) (b.rules.getD k default)=true) (fun i=>a.rules.length-i) (0) ?_ ?_ ?_ ?_
 ·simp
 ·rfl
 ·exact at_
 rintro i r ⟨h1,h2⟩
 by_cases hi:i<a.rules.length
 ·have hi':i<b.rules.length:=by omega
  have k1:=BG _ _ (a4 _ (aY hi)).1 (b4 _ (aY hi')).1
  have k2:=BG _ _ (a4 _ (aY hi)).2 (b4 _ (aY hi')).2
  have hne:=fun h=>pV (p:=hU) hi h hi'
  have cu:=fun he=>aW (q:=fun k=>hU (a.rules.getD k default) (b.rules.getD k default)=true) h2 (i:=i) he
  obtain⟨x,hx⟩:∃ x,a.rules.getD i default=x:=⟨_,rfl⟩
  obtain⟨y,hy⟩:∃ y,b.rules.getD i default=y:=⟨_,rfl⟩
  rw[hx]at k1 k2 hne cu
  rw[hy]at k1 k2 hne cu
  simp only[hU]at hne cu
  generalize fh (fun x y=>x==y) x.cells y.cells=w1 at k1 hne cu
  generalize fh (fun x y=>x==y) x.outs y.outs=w2 at k2 hne cu
  simp only[dS]at k1 k2
  repeat' first|simp (disch:=omega) only[go_sem,aC,aD,aE,aj,au,ak,Nat.reduceAdd,Nat.reduceBEq,↓reduceIte,hx,hy]|refine aB ?_|refine aF k1 ?_|refine aF k2 ?_|refine aA (fun hw=>?_) (fun hw=>?_)<;>try omega|fail
  all_goals first
   | exact aZ
   |(refine aL ?_ rfl;rw[← hS,hne (by clear hne cu hS;simp_all),Bool.and_false];done)
   | (refine ⟨i + 1, ?_, ?_, ?_, bG, at_⟩ <;> (try dsimp only)
      ·exact⟨by omega,cu (by clear hne cu hS;simp_all)⟩
      ·omega
      all_goals (first|rfl|(simp[go_sem];done)))
 ·rw[mU hlm (fun k hk=>h2 k (by omega)),Bool.and_true]at hS
  repeat' first|refine aB ?_|refine aF c1 ?_|refine aF c2 ?_|refine aA (fun hw=>?_) (fun hw=>?_)<;>try omega|fail
  all_goals first
   | exact aZ
   |(refine aL ?_ rfl;rw[← hS];simp_all;done)
def fq(l:gY)(m:Nat): aH × Int:=kz (l.cells.getD m default)
def iy(l:gY)(m:Nat): aH × Int:=jQ (l.outs.getD m default)
def bj(l:gY)(n:Nat): List aH:=(List.range n).map fun m=>(fq l m).1
def iX(l:gY)(n:Nat): List aH:=(List.range n).map fun m=>(iy l m).1
theorem JM(l:gY)(n:Nat): bj l (n+1)=bj l n++[(fq l n).1]:=by simp[bj,List.range_succ]
theorem MG(l:gY)(n:Nat): iX l (n+1)=iX l n++[(iy l n).1]:=by simp[iX,List.range_succ]
theorem nQ(l:gY)(n:Nat): (bj l n).length=n:=by simp[bj]
theorem qf(l:gY)(n:Nat): (iX l n).length=n:=by simp[iX]
def rq(w:Nat)(l:gY): cK × Int × Int :=
 match(List.range l.cells.length).find? (fun m=>(fq l m).2 != 0)with
 | some m=>(⟨bj l l.cells.length,iX l l.outs.length⟩,m,(fq l m).2)
 | none => match (List.range l.outs.length).find? (fun m => (iy l m).2 != 0) with
   | some m=>(⟨bj l l.cells.length,iX l l.outs.length⟩,w+m,(iy l m).2)
   | none=>(⟨bj l l.cells.length,iX l l.outs.length⟩,0,0)
def fJ: Table:=⟨[],[],[],0,0,[]⟩
def sD(t:Table)(n:Nat): gY:=(cI t).1.lines.getD n default
def iT(t:Table)(n:Nat): cK × Int × Int:=rq t.ins.length (sD t n)
def gV(t:Table)(n:Nat): List cK:=(List.range n).map fun k=>(iT t k).1
def bZ(t:Table): Table × Int × Int × Int :=
 if(cI t).2.2.2≠0 then(fJ,(cI t).2.1,(cI t).2.2.1,(cI t).2.2.2)
 else match(List.range (cI t).1.lines.length).find? (fun n=>(iT t n).2.2 != 0)with
 | some n=>(fJ,n,(iT t n).2.1,(iT t n).2.2)
 | none=>({ t with rules:=gV t (cI t).1.lines.length },0,0,0)
def MH(r:Table × Int × Int × Int): AV:= .bJ [bI r.1,I r.2.1,I r.2.2.1,I r.2.2.2]
theorem MI(t:Table)(n:Nat): gV t (n+1)=gV t n++[(iT t n).1]:=by simp[gV,List.range_succ]
theorem jF(t:Table)(n:Nat): (gV t n).length=n:=by simp[gV]
theorem H6(w:Nat)(l:gY): (rq w l).1=⟨bj l l.cells.length,iX l l.outs.length⟩:=by
 unfold rq;split
 ·rfl
 ·split<;>rfl
theorem Pn(w:Nat){l:gY}{m:Nat}(hm:m<l.cells.length)(h:∀ j,j<m→(fq l j).2=0)(he:(fq l m).2≠0): (rq w l).2=((m:Int),(fq l m).2):=by
 unfold rq;rw[wo (i:=m) hm (fun j hj=>by simp[h j hj]) (by simp[he])]
theorem Ss(w:Nat){l:gY}(hc:∀ j,j<l.cells.length→(fq l j).2=0){m:Nat}(hm:m<l.outs.length)(h:∀ j,j<m→(iy l j).2=0)(he:(iy l m).2≠0): (rq w l).2=((w:Int)+m,(iy l m).2):=by
 unfold rq
 rw[kF (fun j hj=>by simp[hc j hj])]
 dsimp only
 rw[wo (i:=m) hm (fun j hj=>by simp[h j hj]) (by simp[he])]
theorem UY(w:Nat){l:gY}(hc:∀ j,j<l.cells.length→(fq l j).2=0)(h:∀ j,j<l.outs.length→(iy l j).2=0): (rq w l).2=(0,0):=by
 unfold rq
 rw[kF (fun j hj=>by simp[hc j hj])]
 dsimp only
 rw[kF (fun j hj=>by simp[h j hj])]
theorem rV{t:Table}(h:(cI t).2.2.2≠0): bZ t=(fJ,(cI t).2.1,(cI t).2.2.1,(cI t).2.2.2):=by unfold bZ;rw[if_pos h]
theorem MJ{t:Table}(h0:(cI t).2.2.2=0){n:Nat}(hn:n<(cI t).1.lines.length)(h:∀ j,j<n→(iT t j).2.2=0)(he:(iT t n).2.2≠0): bZ t=(fJ,(n:Int),(iT t n).2.1,(iT t n).2.2):=by
 unfold bZ
 rw[if_neg (by omega),wo (i:=n) hn (fun j hj=>by simp[h j hj]) (by simp[he])]
theorem BL{t:Table}(h0:(cI t).2.2.2=0)(h:∀ j,j<(cI t).1.lines.length→(iT t j).2.2=0): bZ t=({ t with rules:=gV t (cI t).1.lines.length },0,0,0):=by
 unfold bZ
 rw[if_neg (by omega),kF (fun j hj=>by simp[h j hj])]
def X1(l:gY): Prop:=(l.cells.length≤2 ^ 30∧ ∀ c ∈ l.cells,wm c)∧l.outs.length≤2 ^ 30∧ ∀ x ∈ l.outs,eH x∧da x≤2 ^ 30
theorem qP{t:Table}(h:(cI t).2.2.2=0): e7 t=0∧(∀ j,j<t.rules.length→(gj t j).2.2=0)∧cI t=((⟨t,jv t t.rules.length⟩:Ready),(0:Int),(0:Int),(0:Int)):=by
 by_cases hf:e7 t=0
 ·have hl : ∀ j, j < t.rules.length → (gj t j).2.2 = 0 := by
   cases hq:(List.range t.rules.length).find? (fun k=>(gj t k).2.2 != 0)with
   | some k =>
     exfalso
     unfold cI at h
     rw[if_neg (by omega),hq]at h
     have:=List.find?_some hq
     simp at this
     exact this h
   | none =>
     intro j hj
     have:=List.find?_eq_none.1 hq j (List.mem_range.2 hj)
     simpa using this
  exact⟨hf,hl,Ez hf hl⟩
 ·rw[Ck hf]at h;exact absurd h hf
theorem X2(t:Table)(r:cK)(h1:t.ins.length≤2 ^ 30)(h2:t.outs.length≤2 ^ 30)(hr:r.cells.length≤2 ^ 30)(ho:r.outs.length≤2 ^ 30): X1 (fY t r).1:=by
 have hc:∀ n,n≤2 ^ 30→(iw t r n).length≤2 ^ 30∧ ∀ c ∈ iw t r n,wm c:=fun n hn=>by
  refine⟨by rw[tu];exact hn,fun c hc=>?_⟩
  obtain⟨k,_,rfl⟩:=List.mem_map.1 hc
  exact My _
 have hx:∀ n,n≤2 ^ 30→(lI t r n).length≤2 ^ 30∧ ∀ x ∈ lI t r n,eH x∧da x≤2 ^ 30:=fun n hn=>by
  refine⟨by rw[Ex];exact hn,fun x hx=>?_⟩
  obtain⟨k,_,rfl⟩:=List.mem_map.1 hx
  exact xn _
 have hk:∀ {n k:Nat} {p:Nat→Bool},(List.range n).find? p=some k→k<n:=fun h=>List.mem_range.1 (List.mem_of_find?_eq_some h)
 unfold fY
 split
 ·exact⟨⟨by simp,by simp⟩,by simp,by simp⟩
 split
 ·rename_i k hq;have:=hk hq;exact⟨hc _ (by omega),by simp,by simp⟩
 split
 ·rename_i k hq;have:=hk hq;exact⟨hc _ hr,hx _ (by omega)⟩
 ·exact⟨hc _ hr,hx _ ho⟩
theorem wH{t:Table}(h:gU t)(h0:(cI t).2.2.2=0): (cI t).1.lines.length=t.rules.length∧ ∀ n,X1 (sD t n):=by
 obtain⟨_,_,hm⟩:=qP h0
 refine⟨by rw[hm];exact qd _ _,fun n=>?_⟩
 unfold sD
 rw[hm]
 dsimp only
 by_cases hn:n<t.rules.length
 ·have : (jv t t.rules.length).getD n default = (gj t n).1 := by
   unfold jv
   rw[List.getD_eq_getElem?_getD,List.getElem?_map,List.getElem?_range hn];rfl
  rw[this]
  have hr:=h.2.2.2.2 _ (aY hn)
  exact X2 t _ h.2.1.1 h.2.2.1.1 hr.1.1 hr.2.1
 ·rw[nM (by rw[qd];omega)]
  exact⟨⟨Nat.zero_le _,fun c hc=>by cases hc⟩,Nat.zero_le _,fun c hc=>by cases hc⟩
def lz(L:Nat)(S:ai)(v:AV)(xs:List aH): Prop:=(xs=[]∧v = .ae)∨(xs≠[]∧ ∃ q,L≤q∧v = .own E1 q xs.length 0 xs.length∧S[q]? = some (.vec E1 (xs.map cy)))
theorem lz.nil(L:Nat)(S:ai): lz L S .ae []:= .inl ⟨rfl,rfl⟩
theorem lz.scalar{L:Nat}{S:ai}{v:AV}{xs:List aH}(h:lz L S v xs): v.scalar=true:=by
 rcases h with⟨_,rfl⟩|⟨_,q,_,rfl,_⟩<;>rfl
theorem lz.view{L:Nat}{S:ai}{v:AV}{xs:List aH}(h:lz L S v xs): View S v (dS xs):=by
 rcases h with⟨rfl,rfl⟩|⟨_,q,_,rfl,hq⟩
 ·exact View.ae _
 ·exact View.vec hq (by simp) (by simp) (LZ _)
theorem lz.keep{L L':Nat}{S S':ai}{v:AV}{xs:List aH}(hL:L'≤L)(hs:∀ (q:Nat) (ys:List AV),L≤q→S[q]? = some (.vec E1 ys)→S'[q]? = some (.vec E1 ys))(h:lz L S v xs): lz L' S' v xs:=by
 rcases h with h|⟨h1,q,h2,h3,h4⟩
 ·exact .inl h
 ·exact .inr ⟨h1,q,Nat.le_trans hL h2,h3,hs _ _ h2 h4⟩
def N_(S:ai)(a:AV)(r:cK): Prop:= ∃ v w,a = .agg [v,w]∧lz 0 S v r.cells∧lz 0 S w r.outs
def eE(S:ai)(rs:List AV)(l:List cK): Prop:=rs.length=l.length∧ ∀ j,j<l.length→N_ S (rs.getD j .undef) (l.getD j default)
theorem eE.nil(S:ai): eE S [] []:=⟨rfl,fun j hj=>by cases hj⟩
theorem eE.keep{S S':ai}{rs:List AV}{l:List cK}(hs:∀ (q:Nat) (ys:List AV),S[q]? = some (.vec E1 ys)→S'[q]? = some (.vec E1 ys))(h:eE S rs l): eE S' rs l:=by
 refine⟨h.1,fun j hj=>?_⟩
 obtain⟨v,w,h1,h2,h3⟩:=h.2 j hj
 exact⟨v,w,h1,h2.keep (Nat.le_refl _) (fun q ys _=>hs q ys),h3.keep (Nat.le_refl _) (fun q ys _=>hs q ys)⟩
theorem eE.snoc{S:ai}{rs:List AV}{l:List cK}{a:AV}{r:cK}(h:eE S rs l)(ha:N_ S a r): eE S (rs++[a]) (l++[r]):=by
 refine⟨by simp[h.1],fun j hj=>?_⟩
 have hl:=h.1
 rw[List.length_append,List.length_cons,List.length_nil]at hj
 by_cases hjl:j<l.length
 ·rw[List.getD_eq_getElem?_getD,List.getD_eq_getElem?_getD,List.getElem?_append_left (by omega),List.getElem?_append_left hjl,← List.getD_eq_getElem?_getD,← List.getD_eq_getElem?_getD]
  exact h.2 j hjl
 ·obtain rfl:j=l.length:=by omega
  rw[List.getD_eq_getElem?_getD,List.getD_eq_getElem?_getD,← hl,List.getElem?_append_right (Nat.le_refl _),hl,List.getElem?_append_right (Nat.le_refl _)]
  simpa using ha
theorem eE.view{S:ai}{rs:List AV}{l:List cK}(h:eE S rs l): aQ S rs (l.map cj):=by
 refine⟨by simp[h.1],fun j hj=>?_⟩
 have hl:=h.1
 obtain⟨v,w,h1,h2,h3⟩:=h.2 j (by omega)
 rw[h1,getD_map _ _ _ (by omega)]
 exact View.mq (.cons h2.view (.cons h3.view (.nil _)))
def qg(L:Nat)(S:ai)(v:AV)(l:List cK): Prop:=(l=[]∧v = .ae)∨(l≠[]∧ ∃ q rs,L≤q∧v = .own ER q l.length 0 l.length∧S[q]? = some (.vec ER rs)∧eE S rs l)
theorem qg.nil(L:Nat)(S:ai): qg L S .ae []:= .inl ⟨rfl,rfl⟩
theorem qg.view{L:Nat}{S:ai}{v:AV}{l:List cK}(h:qg L S v l): View S v (cQ l):=by
 rcases h with⟨rfl,rfl⟩|⟨_,q,rs,_,rfl,hq,hr⟩
 ·exact View.ae _
 ·exact View.abR hq hr.1.symm hr.1.symm hr.view
theorem qg.scalar{L:Nat}{S:ai}{v:AV}{l:List cK}(h:qg L S v l): v.scalar=true:=by
 rcases h with⟨_,rfl⟩|⟨_,q,_,_,rfl,_⟩<;>rfl
theorem qg.keep{L:Nat}{S S':ai}{v:AV}{l:List cK}(hs:∀ (q:Nat) (o:aR),S[q]? = some o→(∀ cs,o≠ .cells cs)→S'[q]? = some o)(h:qg L S v l): qg L S' v l:=by
 rcases h with h|⟨h1,q,rs,h2,h3,h4,h5⟩
 ·exact .inl h
 ·exact .inr ⟨h1,q,rs,h2,h3,hs _ _ h4 (fun cs=>by simp),h5.keep (fun q ys hq=>hs q _ hq (fun cs=>by simp))⟩
end Go.Proofs.YtmbgnaoilncbnaaGreatDoor
