/- Part. -/
import Derived.Test.YtcjcnfcedihckaaGreatDoorV31
set_option linter.all false
namespace Go.Proofs.YtcjcnfcedihckaaGreatDoor
open Go.AM
set_option maxRecDepth 4000
def zM{α : Type}[Inhabited α]{p : α->Bool}{l:List α}(h:∀ k,k<l.length->p (l.getD k default)=true): l.all p=true:=by
 rw[bq];intro x hx;obtain⟨i,hi,rfl⟩:=bA hx;have:=h i hi;rwa[aj,aK hi,bB]at this
def zN{α : Type}[Inhabited α]{p : α->Bool}{l:List α}{i:Nat}(hi:i<l.length)(h:p (l.getD i default)=false): l.all p=false:=by
 cases hq:l.all p with
 | false=>rfl
 | true=>rw[List.all_eq_true]at hq;rw[hq _ (aV hi)]at h;cases h
def I5(n:Nat)(s:aG): Bool:=decide (s.length<=n)
def Ci(l:List aG): Bool:=decide (l.length<=10) && l.all (I5 300)
def DV(l:List aG): aH aE 34 [bI l] (.bool (Ci l)):=by
 obtain⟨E,hE⟩:∃ E,Ci l=E:=⟨_,rfl⟩;rw[hE];unfold Ci at hE;simp only[bI];refine aJ Ik ?_;intro Q au aA aB;repeat' first|refine aq ?_|refine ak ?_ ?_<;>intro hw<;>try omega|fail
 ·refine aL ?_ rfl;rw[<-hE,decide_eq_false (by omega),dA]
 have h10:l.length<=10:=by omega
 rw[decide_eq_true h10,c_]at hE;with_reducible refine bn [2,3,7,8,9,10,11,12,13,14,15,16,17,18] (fun i:Nat=>[(3,I i)]) (fun _=>[]) (fun i=>i<=l.length/\ ∀ k,k<i->I5 300 (l.getD k default)=true) (fun i=>l.length-i) (0) ?_ ?_ ?_ ?_
 ·simp
 ·rfl
 ·exact at_
 rintro i r ⟨h1,h2⟩;by_cases hi:i<l.length
 ·have hne:=fun h=>zN (p:=I5 300) hi h;have bV:=fun he=>aY (q:=fun k=>I5 300 (l.getD k default)=true) h2 (i:=i) he;have hS:I5 300 (l.getD i default)=decide ((l.getD i default).length<=300):=rfl;rw[hS]at hne bV;repeat' first|refine aq ?_|refine ak ?_ ?_<;>intro hw<;>try omega|fail
  all_goals first
   | exact bh
   |(refine aL ?_ rfl;rw[<-hE,hne (decide_eq_false (by omega))])
   | (refine ⟨i + 1, ?_, ?_, by first | rfl | (simp [go_sem]; done), bL, at_⟩ <;> (try dsimp only)
      ·exact⟨by omega,bV (decide_eq_true (by omega))⟩
      ·omega)
 ·repeat' first|refine aq ?_|refine ak ?_ ?_<;>intro hw<;>try omega|fail
  refine aL ?_ rfl;rw[<-hE,zM (fun k hk=>h2 k (by omega))]
def C5(c:cL): Bool:=decide (c.name.length<=300)
def Cj(l:List cL): Bool:=decide (l.length<=12) && l.all C5
def Ue(l:List cL): aH aE 72 [bP l] (.bool (Cj l)):=by
 obtain⟨E,hE⟩:∃ E,Cj l=E:=⟨_,rfl⟩;rw[hE];unfold Cj at hE;simp only[bP];refine aJ Db ?_;intro Q au aA aB;repeat' first|refine aq ?_|refine ak ?_ ?_<;>intro hw<;>try omega|fail
 ·refine aL ?_ rfl;rw[<-hE,decide_eq_false (by omega),dA]
 have h10:l.length<=12:=by omega
 rw[decide_eq_true h10,c_]at hE;with_reducible refine bn [2,3,7,8,9,10,11,12,13,14,15,16,17,18,19] (fun i:Nat=>[(3,I i)]) (fun _=>[]) (fun i=>i<=l.length/\ ∀ k,k<i->C5 (l.getD k default)=true) (fun i=>l.length-i) (0) ?_ ?_ ?_ ?_
 ·simp
 ·rfl
 ·exact at_
 rintro i r ⟨h1,h2⟩;by_cases hi:i<l.length
 ·have hne:=fun h=>zN (p:=C5) hi h;have bV:=fun he=>aY (q:=fun k=>C5 (l.getD k default)=true) h2 (i:=i) he;have hS:C5 (l.getD i default)=decide ((l.getD i default).name.length<=300):=rfl;rw[hS]at hne bV;repeat' first|refine aq ?_|refine ak ?_ ?_<;>intro hw<;>try omega|fail
  all_goals first
   | exact bh
   |(refine aL ?_ rfl;rw[<-hE,hne (decide_eq_false (by omega))])
   | (refine ⟨i + 1, ?_, ?_, by first | rfl | (simp [go_sem]; done), bL, at_⟩ <;> (try dsimp only)
      ·exact⟨by omega,bV (decide_eq_true (by omega))⟩
      ·omega)
 ·repeat' first|refine aq ?_|refine ak ?_ ?_<;>intro hw<;>try omega|fail
  refine aL ?_ rfl;rw[<-hE,zM (fun k hk=>h2 k (by omega))]
def oM(v:eu): Bool:=decide (v.s.length<=300)
def I6(c:cL): Bool:=decide (c.order.length<=12) && c.order.all oM
def zO(l:List cL): Bool:=Cj l && l.all I6
def DW(l:List cL): aH aE 33 [bP l] (.bool (zO l)):=by
 have cf:=Ue l;obtain⟨E,hE⟩:∃ E,zO l=E:=⟨_,rfl⟩;rw[hE];unfold zO at hE;have h12:Cj l=true->l.length<=12:=fun h=>by simp only[Cj,aD,decide_eq_true_eq]at h;exact h.1
 simp only[bP]at cf ⊢;generalize Cj l=fe at *;refine aJ Ij ?_;intro Q au aA aB;cases fe with
 | false =>
   repeat' first|refine aq ?_|refine ak ?_ ?_<;>intro hw<;>try omega|fail
   all_goals first
    | exact bh
    |(refine aL ?_ rfl;rw[<-hE,dA])
 | true =>
   rw[c_]at hE;have h12:=h12 rfl;repeat' first|refine aq ?_|refine ak ?_ ?_<;>intro hw<;>try omega|fail
   all_goals first|exact bh|skip
   with_reducible refine bn [2,3,4,8,9,10,11,12,13,14,15,16,17,18,19,20,21,22,23,24,25,26,27,28,29,30,31,32,33,34,35,36,37,38,39,40,41] (fun i:Nat=>[(3,I i)]) (fun _=>[]) (fun i=>i<=l.length/\ ∀ k,k<i->I6 (l.getD k default)=true) (fun i=>l.length-i) (0) ?_ ?_ ?_ ?_
   ·simp
   ·rfl
   ·exact at_
   rintro i r ⟨h1,h2⟩;by_cases hi:i<l.length
   ·have hne:=fun h=>zN (p:=I6) hi h;have bV:=fun he=>aY (q:=fun k=>I6 (l.getD k default)=true) h2 (i:=i) he;have hS:I6 (l.getD i default)=(decide ((l.getD i default).order.length<=12) && (l.getD i default).order.all oM):=rfl;rw[hS]at hne bV;obtain⟨c,hc⟩:∃ c,l.getD i default=c:=⟨_,rfl⟩;rw[hc]at hne bV;clear hS;repeat' first|simp (disch:=omega) only[go_sem,au,aA,aB,hc]|refine aq ?_|refine ak ?_ ?_<;>intro hw<;>try omega|fail
    ·refine aL ?_ rfl;rw[<-hE,hne (by rw[decide_eq_false (by omega),dA])]
    have ho:c.order.length<=12:=by omega
    rw[decide_eq_true ho,c_]at hne bV;with_reducible refine bn [2,4,21,22,23,24,25,26,27,28,29,30,31,32,33,34,35,36,37,38,39,40,41] (fun j:Nat=>[(4,I j)]) (fun _=>[]) (fun j=>j<=c.order.length/\ ∀ k,k<j->oM (c.order.getD k default)=true) (fun j=>c.order.length-j) (0) ?_ ?_ ?_ ?_
    ·simp
    ·rfl
    ·exact at_
    rintro j r2 ⟨g1,g2⟩;by_cases hj:j<c.order.length
    ·have aal:=fun h=>zN (p:=oM) hj h;have jG:=fun he=>aY (q:=fun k=>oM (c.order.getD k default)=true) g2 (i:=j) he;have hS:oM (c.order.getD j default)=decide ((c.order.getD j default).s.length<=300):=rfl;rw[hS]at aal jG;repeat' first|simp (disch:=omega) only[go_sem,au,aA,aB,hc]|refine aq ?_|refine ak ?_ ?_<;>intro hw<;>try omega|fail
     all_goals first
      | exact bh
      |(refine aL ?_ rfl;rw[<-hE,hne (aal (decide_eq_false (by omega)))])
      | (refine ⟨j + 1, ?_, ?_, by first | rfl | (simp [go_sem]; done), bL, at_⟩ <;> (try dsimp only)
         ·exact⟨by omega,jG (decide_eq_true (by omega))⟩
         ·omega)
    ·repeat' first|simp (disch:=omega) only[go_sem,au,aA,aB,hc]|refine aq ?_|refine ak ?_ ?_<;>intro hw<;>try omega|fail
     refine⟨i+1,?_,?_,by first|rfl|(simp[go_sem];done),bL,at_⟩<;>(try dsimp only)
     ·exact⟨by omega,bV (zM (fun k hk=>g2 k (by omega)))⟩
     ·omega
   ·repeat' first|refine aq ?_|refine ak ?_ ?_<;>intro hw<;>try omega|fail
    refine aL ?_ rfl;rw[<-hE,zM (fun k hk=>h2 k (by omega))]
def I7(r:eO): Bool:=Ci r.cells && Ci r.outs
def tR(t:Table): Bool:=decide (t.name.length<=300) && decide (t.rules.length<=26) && zO t.ins && zO t.outs && t.rules.all I7
def O8(t:Table): aH aE 17 [cD t] (.bool (tR t)):=by
 have ci:=DW t.ins;have co:=DW t.outs;obtain⟨E,hE⟩:∃ E,tR t=E:=⟨_,rfl⟩;rw[hE];unfold tR at hE;simp only[cD,fg,bP,dV]at ci co ⊢;generalize zO t.ins=oi at *;generalize zO t.outs=oo at *;refine aJ Ep ?_;intro Q au aA aB;by_cases hb:(decide (t.name.length<=300) && decide (t.rules.length<=26) && oi && oo)=true
 case neg =>
  simp only[Bool.not_eq_true]at hb;rw[hb,dA]at hE;cases oi<;>cases oo
  all_goals
   repeat' first|refine aq ?_|refine ak ?_ ?_<;>intro hw<;>try omega|fail
  all_goals first
   | exact bh
   |(refine aL ?_ rfl;rw[<-hE])
   |(exfalso;simp at hb;omega)
 rw[hb,c_]at hE;simp only[aD,decide_eq_true_eq]at hb;obtain⟨⟨⟨b1,b2⟩,rfl⟩,rfl⟩:=hb;repeat' first|refine aq ?_|refine ak ?_ ?_<;>intro hw<;>try omega|fail
 all_goals first|exact bh|skip
 with_reducible refine bn [2,3,26,27,28,29,30,31,32,33,34,35,36,37,38,39,40,41,42,43,44,45,46,47,48,49,50] (fun i:Nat=>[(3,I i)]) (fun _=>[.cells [.str t.name,.aF false EC (t.ins.map bF),.aF false EC (t.outs.map bF),I t.aZ,I t.agg,.aF false ER (t.rules.map cn)]]) (fun i=>i<=t.rules.length/\ ∀ k,k<i->I7 (t.rules.getD k default)=true) (fun i=>t.rules.length-i) (0) ?_ ?_ ?_ ?_
 ·simp
 ·rfl
 ·exact at_
 rintro i r ⟨h1,h2⟩;by_cases hi:i<t.rules.length
 ·have hne:=fun h=>zN (p:=I7) hi h;have bV:=fun he=>aY (q:=fun k=>I7 (t.rules.getD k default)=true) h2 (i:=i) he;have hS:I7 (t.rules.getD i default)=(Ci (t.rules.getD i default).cells && Ci (t.rules.getD i default).outs):=rfl;have c1:=DV (t.rules.getD i default).cells;have c2:=DV (t.rules.getD i default).outs;rw[hS]at hne bV;simp only[bI]at c1 c2;generalize Ci (t.rules.getD i default).cells=u1 at *;generalize Ci (t.rules.getD i default).outs=u2 at *;cases u1<;>cases u2
  all_goals
   repeat' first|refine aq ?_|refine ak ?_ ?_<;>intro hw<;>try omega|fail
  all_goals first
   | exact bh
   |(refine aL ?_ rfl;rw[<-hE,hne rfl])
   | (refine ⟨i + 1, ?_, ?_, by first | rfl | (simp [go_sem]; done), bL, at_⟩ <;> (try dsimp only)
      ·exact⟨by omega,bV rfl⟩
      ·omega)
 ·repeat' first|refine aq ?_|refine ak ?_ ?_<;>intro hw<;>try omega|fail
  refine aL ?_ rfl;rw[<-hE,zM (fun k hk=>h2 k (by omega))]
set_option maxRecDepth 8000
def Nw(v:eu): Prop:= -9223372036854775808<=v.n/\v.n<=9223372036854775807
def R3(l:List cL): Prop:= ∀ c ∈ l,∀ v ∈ c.order,Nw v
def En(t:Table): Prop:=R3 t.ins/\R3 t.outs
def Qo{l:List cL}(h:zO l=true)(hr:R3 l): l.length<=12/\ ∀ c ∈ l,rS c:=by
 simp only[zO,Cj,aD,decide_eq_true_eq,bq]at h;obtain⟨⟨h1,h2⟩,h3⟩:=h;refine⟨h1,fun c hc=>?_⟩;have a:=h2 c hc;have b:=h3 c hc;simp only[C5,I6,aD,decide_eq_true_eq,bq]at a b;refine⟨by omega,by omega,fun v hv=>⟨hr c hc v hv,?_⟩⟩;have:=b.2 v hv;simp only[oM,decide_eq_true_eq]at this;omega
def Nx{l:List aG}(h:Ci l=true): l.length<=10/\ ∀ s ∈ l,s.length<=300:=by
 simp only[Ci,aD,decide_eq_true_eq,bq]at h;exact⟨h.1,fun s hs=>by have:=h.2 s hs;simpa[I5]using this⟩
def V_{t:Table}(h:tR t=true)(hr:En t): l7 t:=by
 simp only[tR,aD,decide_eq_true_eq,bq]at h;obtain⟨⟨⟨⟨h1,h2⟩,h3⟩,h4⟩,h5⟩:=h;have ci:=Qo h3 hr.1;have co:=Qo h4 hr.2;refine⟨by omega,⟨by omega,ci.2⟩,⟨by omega,co.2⟩,by omega,fun r Tf=>?_⟩;have:=h5 r Tf;simp only[I7,aD]at this;have a:=Nx this.1;have b:=Nx this.2;exact⟨⟨by omega,fun s hs=>by have:=a.2 s hs;omega⟩,by omega,fun s hs=>by have:=b.2 s hs;omega⟩
def qA{α : Type}{p : α-> α->Bool}(l:List α)(h:∀ x ∈ l,p x x=true): fL p l l=true:=by
 induction l with
 | nil=>rfl
 | cons x l ih=>simp only[fL,h x (by simp),c_];exact ih (fun y hy=>h y (cE _ hy))
def Ny(t:Table): iN t t=true:=by
 have hc:∀ l:List cL,fL gP l l=true:=fun l=>qA l (fun c _=>by
  unfold gP;rw[qA c.order (fun v _=>by simp)];simp)
 have hr:∀ l:List eO,fL jx l l=true:=fun l=>qA l (fun r _=>by
  unfold jx;rw[qA r.cells (fun v _=>by simp),qA r.outs (fun v _=>by simp)];rfl)
 unfold iN;rw[hc,hc,hr];simp
def Qp{l:List cL}(h:l.length<=2 ^ 30/\ ∀ c ∈ l,rS c): Cd l:=⟨by omega,fun c hc=>(h.2 c hc).2.1⟩
def yA{t:Table}(h:l7 t): zK t:=⟨Qp h.2.1,Qp h.2.2.1,by have:=h.2.2.2.1;omega,fun r hr=>by
 have:=h.2.2.2.2 r hr;exact⟨by omega,by omega⟩⟩
def I8: zK fh:=⟨⟨by decide,fun c hc=>(by cases hc)⟩,⟨by decide,fun c hc=>(by cases hc)⟩,by decide,fun c hc=>(by cases hc)⟩
def Nz{t:Table}(h:l7 t): zK (fC t).1:=by
 by_cases he:(dR t).2.2.2=0
 ·unfold fC;rw[if_neg (by omega)];split
  ·exact I8
  ·obtain⟨a,b,c,d⟩:=yA h;obtain⟨h1,h2⟩:=xE h he;refine⟨a,b,?_,fun r hr=>?_⟩
   ·dsimp only;rw[oJ];omega
   ·obtain⟨k,_,rfl⟩:=cW.1 hr;have hk:=h2 k;unfold kQ;rw[Ce];refine⟨?_,?_⟩
    ·dsimp only;rw[uO];have:=hk.1.1;omega
    ·dsimp only;rw[w7];have:=hk.2.1;omega
 ·rw[tu he];exact I8
abbrev TK:=Int × aG × Int
def tk(t:Tok): TK:=(t.kind,t.s,t.n)
def Bs(r:aG): Prop:=r.head? = some 32
def Lx(B:aG->Prop)(s:aG)(ks:List TK): Prop:= ∀ r,B r-> ∀(f pos:Nat) (acc:List Tok),(s++r).length<f-> ∃ f' ts,r.length<f'/\nU f (s++r) pos acc=nU f' r (pos+s.length) (acc++ts)/\ts.map tk=ks
def Lx.nil(B:aG->Prop): Lx B [] []:=fun r _ f pos acc hf=>⟨f,[],hf,by simp,rfl⟩
def Lx.app{B1 B2:aG->Prop}{s1 s2:aG}{k1 k2:List TK}(h1:Lx B1 s1 k1)(h2:Lx B2 s2 k2)(hb:∀ r,B2 r->B1 (s2++r)): Lx B2 (s1++s2) (k1++k2):=by
 intro r hr f pos acc hf;obtain⟨f1,t1,a1,b1,c1⟩:=h1 (s2++r) (hb r hr) f pos acc (by rw[<-List.append_assoc];exact hf);obtain⟨f2,t2,a2,b2,c2⟩:=h2 r hr f1 (pos+s1.length) (acc++t1) a1;refine⟨f2,t1++t2,a2,?_,by rw[ek,c1,c2]⟩;rw[List.append_assoc,b1,b2,aC,List.append_assoc,c8]
def Lx.weak{B B':aG->Prop}{s:aG}{ks:List TK}(h:Lx B s ks)(hb:∀ r,B' r->B r): Lx B' s ks:=fun r hr=>h r (hb r hr)
def Lx.sp(B:aG->Prop): Lx B [32] []:=by
 intro r _ f pos acc hf;obtain⟨f,rfl⟩:∃ k,f=k+1:=⟨f-1,by simp at hf;omega⟩;refine⟨f,[],by simp at hf;omega,?_,rfl⟩;rw[List.singleton_append,ou,if_pos (by decide),List.append_nil];rfl
def Lx.one{B:aG->Prop}{s:aG}{k:TK}(hs:s≠[])(Xb:(s.getD 0 0).toNat≠32)(h:∀ r,B r->fY (s++r)=⟨k.1,k.2.1,k.2.2,s.length,0⟩): Lx B s [k]:=by
 intro r hr f pos acc hf;have h1:=h r hr;obtain⟨c,s',rfl⟩:∃ c s',s=c::s':=by cases s with|nil=>exact absurd rfl hs|cons c s'=>exact⟨c,s',rfl⟩
 obtain⟨f,rfl⟩:∃ k,f=k+1:=⟨f-1,by simp at hf;omega⟩;refine⟨f,[⟨k.1,k.2.1,k.2.2,pos⟩],by simp at hf;omega,?_,rfl⟩;rw[cF]at h1 ⊢;rw[ou,if_neg (by simpa using Xb),h1,if_pos rfl];simp
def Bs.cons{r:aG}(h:Bs r): ∃ r',r=32::r':=by
 cases r with
 | nil=>cases h
 | cons c r=>cases h;exact⟨r,rfl⟩
def Wa(a b:aG): ∀ v:Int,mu (a++b) v=(mu a v).bind (mu b):=by
 induction a with
 | nil=>intro v;rfl
 | cons c r ih =>
   intro v;rw[cF];simp only[mu];split
   ·rfl
   ·exact ih _
def Kg{d:Nat}(h:d<10): (UInt8.ofNat (48+d)).toNat=48+d:=by
 rw[UInt8.toNat_ofNat'];omega
def Hh(u:Nat): Lib.decDigits u≠[]/\(∀ c ∈ Lib.decDigits u,dc c=true)/\(1<=u->((Lib.decDigits u).getD 0 0).toNat≠48)/\(u<=9223372036854775807->mu (Lib.decDigits u) 0=some (u:Int)):=by
 induction u using Nat.strongRecOn with
 | _ u ih =>
   rw[Lib.decDigits];split
   ·rename_i h;have ht:=Kg h;refine⟨by simp,fun c hc=>?_,fun h1=>?_,fun h2=>?_⟩
    ·simp only[List.mem_cons,List.not_mem_nil,or_false]at hc;subst hc;simp only[dc,ht,aD,decide_eq_true_eq];omega
    ·rw[bR,ht];omega
    ·simp only[mu,ht];rw[if_neg (by omega)]
     congr 1;omega
   ·rename_i h;obtain⟨i1,i2,i3,i4⟩:=ih (u / 10) (by omega);have ht:=Kg (d:=u % 10) (by omega);refine⟨by simp,fun c hc=>?_,fun h1=>?_,fun h2=>?_⟩
    ·rcases List.mem_append.1 hc with hc|hc
     ·exact i2 c hc
     ·simp only[List.mem_cons,List.not_mem_nil,or_false]at hc;subst hc;simp only[dc,ht,aD,decide_eq_true_eq];omega
    ·have:=i3 (by omega);generalize Lib.decDigits (u / 10)=w at *;cases w with
     | nil=>exact absurd rfl i1
     | cons c w=>simpa using this
    ·rw[Wa,i4 (by omega),gk];simp only[mu,ht];rw[if_neg (by omega)]
     congr 1;omega
def adO(v:eu): TK:=if v.kind=1 then(2,[],v.n)else if v.kind=2 then(3,v.s,0)else if v.kind=3 then(1,if v.n=1 then jO else jh,0)else (1,lE,0)
def vZ(w:Int × List TK)(lvl:Int): List TK:=if w.1<lvl then(4,[40],0)::(w.2++[(4,[41],0)])else w.2
def adP: TK:=(1,[105,102],0)
def aam: TK:=(1,thenS,0)
def aan: TK:=(1,wP,0)
def abK(op:Int): TK:=(j8 (cJ op),(cJ op).sign,0)
def abL(op:Int)(v:eu)(s:aG)(ws:List (Int × List TK)): List TK :=
 if op=1 then [adO v]else if op=2 then [(1,s,0)]
 else if op=3 then(4,[45],0)::vZ (ws.getD 0 default) 6
 else if op=16 then adP::(vZ (ws.getD 0 default) 0++(aam::(vZ (ws.getD 1 default) 0++(aan::vZ (ws.getD 2 default) 0))))
 else vZ (ws.getD 0 default) (if(cJ op).level=3 then 4 else(cJ op).level)++(abK op::vZ (ws.getD 1 default) ((cJ op).level+1))
mutual
def Wb: Expr->List TK
 | .mk op v s l=>abL op v s (aao l)
def aao: List Expr->List (Int × List TK)
 | []=>[]
 | x::r=>(cP x.op,Wb x)::aao r
end
def Hi(x:Expr)(lvl:Int): List TK:=vZ (cP x.op,Wb x) lvl
def w8(T:List Tok): Nat->List TK->Prop
 | _,[]=>True
 | p,k::ks=>(p<T.length/\tk (T.getD p default)=k)/\w8 T (p+1) ks
def w8.app{T:List Tok}{a b:List TK}: ∀ {p:Nat},w8 T p (a++b)↔w8 T p a/\w8 T (p+a.length) b:=by
 induction a with
 | nil=>intro p;simp[w8]
 | cons k a ih =>
   intro p;rw[cF];simp only[w8,ih,List.length_cons];rw[show p+(a.length+1)=p+1+a.length by omega,and_assoc,and_assoc,and_assoc]
def w8.map(T:List Tok): ∀(p:Nat),p<=T.length->w8 T p ((T.drop p).map tk):=by
 intro p hp
 induction hn:T.length-p generalizing p with
 | zero=>rw[iF (by omega)];trivial
 | succ n ih =>
   have hlt:p<T.length:=by omega
   rw[ez hlt,aR];refine⟨⟨hlt,?_⟩,ih (p+1) hlt (by omega)⟩;rw[aj,aK hlt];rfl
def Yc{T:List Tok}{p:Nat}(h:T.length<=p)(l:Int): pX T p false l=none:=by
 unfold pX;rw[dy];intro x _;have:iC T p (j8 x) x.sign=false:=by simp only[iC,Bool.and_eq_false_iff,decide_eq_false_iff_not];left;omega
 simp[dW,this]
def LG(T:List Tok)(p lvl:Nat): Prop:= ∀ l:Nat,lvl<=l->pX T p false l=none
def LG.end{T:List Tok}{p:Nat}(h:T.length<=p)(lvl:Nat): LG T p lvl:=fun l _=>Yc h l
def Rd(T:List Tok)(x:Expr)(p q lvl:Nat): Prop:= ∀ f,8*(q-p)+(8-lvl)<=f->bN T f none lvl p=⟨x,q,false⟩
structure aeZ (x:Expr):Prop where
 pos:1<=(Wb x).length
 a:∀ (T:List Tok) (p lvl:Nat) (i:Int),i=lvl->lvl<=7->w8 T p (Hi x i)->LG T (p+(Hi x i).length) lvl->Rd T x p (p+(Hi x i).length) lvl
 c:∀ (T:List Tok) (p L:Nat) (i:Int),i=L->1<=L->L<=5->L≠3->w8 T p (Hi x i)->LG T (p+(Hi x i).length) (L+1)-> ∀ f,8*(Hi x i).length+(8-L)<=f-> ∃ f',f<=f'+1+(Hi x i).length/\bN T f none L p=bN T f' (some x) L (p+(Hi x i).length)
 f:∀ (T:List Tok) (p lvl:Nat),1<=lvl->w8 T p (Hi x lvl)->iC T p 1 [105,102]=false
def w8.le{T:List Tok}{ks:List TK}: ∀ {p:Nat},w8 T p ks->p<=T.length->p+ks.length<=T.length:=by
 induction ks with
 | nil=>intro p _ hp;exact hp
 | cons k ks ih=>intro p h hp;rw[List.length_cons];have:=ih h.2 h.1.1;omega
def rtT(T:List Tok): Prop:= ∀ q,((T.getD q default).kind=2->0<=(T.getD q default).n)/\((T.getD q default).kind=3->gg (T.getD q default).s=true)
def O9(r b:aG)(i:Nat): (∀ c ∈ b,jg c=true)->(jd r b i).e=0->gg (jd r b i).s=true:=by
 fun_induction jd r b i with
 | case1=>intro _ h;simp[PR.err]at h
 | case2=>intro _ h;simp[PR.err]at h
 | case3 c r b i h1 h2 =>
   intro hb _;simp only[gg,aD,decide_eq_true_eq,bq];exact⟨by omega,hb⟩
 | case4=>intro _ h;simp[PR.err]at h
 | case5 b i c h1 h2 d r' h3 ih =>
   intro hb h;refine ih (fun e he=>?_) h;rcases List.mem_append.1 he with he|he
   ·exact hb e he
   ·simp only[List.mem_cons,List.not_mem_nil,or_false]at he;subst he;simp only[jg,aD,decide_eq_true_eq];omega
 | case6=>intro _ h;simp[PR.err]at h
 | case7 c r b i h1 h2 h3 ih =>
   intro hb h;refine ih (fun e he=>?_) h;rcases List.mem_append.1 he with he|he
   ·exact hb e he
   ·simp only[List.mem_cons,List.not_mem_nil,or_false]at he;subst he;exact h3
 | case8=>intro _ h;simp[PR.err]at h
def R4(s:aG): (fY s).e=0->(fY s).kind=3->gg (fY s).s=true:=by
 have e:∀ k,(PR.err k).kind=0:=fun k=>rfl;unfold fY;simp only;split
 ·intro _ h;unfold uF at h;split at h<;>simp[PR.err]at h
 split
 ·intro _ h;unfold k7 at h;simp only at h;split at h
  ·simp[PR.err]at h
  ·split at h<;>simp[PR.err]at h
 split
 ·intro h _;exact O9 _ _ _ (fun c hc=>by cases hc) h
 ·intro _ h;unfold o_ at h;split at h<;>simp[PR.err]at h
def R5(f:Nat): ∀(s:aG) (pos:Nat) (acc:List Tok),(∀ t ∈ acc,t.kind=3->gg t.s=true)-> ∀ t ∈ (nU f s pos acc).1,t.kind=3->gg t.s=true:=by
 induction f with
 | zero=>intro s pos acc h;exact h
 | succ f ih =>
   intro s pos acc h;cases s with
   | nil=>exact h
   | cons c r =>
     rw[ou];split
     ·exact ih r (pos+1) acc h
     ·split
      ·rename_i he;refine ih _ _ _ (fun t ht=>?_);rcases List.mem_append.1 ht with ht|ht
       ·exact h t ht
       ·simp only[List.mem_cons,List.not_mem_nil,or_false]at ht;subst ht;exact R4 _ he
      ·intro t ht;cases ht
def Qq(s:aG): rtT (aX s).1:=by
 intro q
 have h1:∀ t ∈ (aX s).1,0<=t.n/\t.n<=9223372036854775807:=by
  unfold aX;split
  ·intro t ht;cases ht
  ·exact TV _ _ _ _ (fun t ht=>by cases ht)
 have h2:∀ t ∈ (aX s).1,t.kind=3->gg t.s=true:=by
  unfold aX;split
  ·intro t ht;cases ht
  ·exact R5 _ _ _ _ (fun t ht=>by cases ht)
 by_cases hq:q<(aX s).1.length
 ·exact⟨fun _=>(h1 _ (aV hq)).1,h2 _ (aV hq)⟩
 ·rw[my (by omega)];exact⟨fun h=>absurd h (by decide),fun h=>absurd h (by decide)⟩
def Hj{t:Table}{r:eO}(h:(j_ t r).2.2=0): r.cells.length=t.ins.length/\r.outs.length=t.outs.length/\(∀ j,j<r.cells.length->(mA t r j).2=0)/\(∀ j,j<r.outs.length->(kA t r j).2=0)/\j_ t r=(⟨j9 t r r.cells.length,nu t r r.outs.length⟩,0,0):=by
 by_cases hb:r.cells.length≠t.ins.length\/r.outs.length≠t.outs.length
 ·rw[Cb hb]at h;exact absurd h (by decide)
 have h1:r.cells.length=t.ins.length:=by omega
 have h2:r.outs.length=t.outs.length:=by omega
 have hc:∀ j,j<r.cells.length->(mA t r j).2=0:=by
  cases hq:(List.range r.cells.length).find? (fun k=>(mA t r k).2 != 0)with
  | some k =>
    exfalso;unfold j_ at h;rw[if_neg hb,hq]at h;have:=eL hq;simp at this;exact this h
  | none =>
    intro j hj;have:=dy.1 hq j (dI.2 hj);simpa using this
 have ho:∀ j,j<r.outs.length->(kA t r j).2=0:=by
  cases hq:(List.range r.outs.length).find? (fun k=>(kA t r k).2 != 0)with
  | some k =>
    exfalso;unfold j_ at h;rw[if_neg hb,l8 (fun j hj=>by simp[hc j hj])]at h;dsimp only at h;rw[hq]at h;have:=eL hq;simp at this;exact this h
  | none =>
    intro j hj;have:=dy.1 hq j (dI.2 hj);simpa using this
 exact⟨h1,h2,hc,ho,E_ h1 h2 hc ho⟩
def Uf{α : Type}[Inhabited α](f:Nat-> α){n k:Nat}(hk:k<n): ((List.range n).map f).getD k default=f k:=by
 rw[aj,List.getElem?_map,List.getElem?_range hk];rfl
def tA{t:Table}(h:(fC t).2.2.2=0): (dR t).2.2.2=0/\(∀ j,j<(dR t).1.lines.length->(kQ t j).2.2=0)/\fC t=({ t with rules:=n7 t (dR t).1.lines.length },0,0,0):=by
 by_cases he:(dR t).2.2.2=0
 ·have hr : ∀ j, j < (dR t).1.lines.length -> (kQ t j).2.2 = 0 := by
   cases hq:(List.range (dR t).1.lines.length).find? (fun k=>(kQ t k).2.2 != 0)with
   | some k =>
     exfalso;unfold fC at h;rw[if_neg (by omega),hq]at h;have:=eL hq;simp at this;exact this h
   | none =>
     intro j hj;have:=dy.1 hq j (dI.2 hj);simpa using this
  exact⟨he,hr,Cf he hr⟩
 ·rw[tu he]at h;exact absurd h he
def rU(n:Int): Nat:=if n<0 then(2*(-1-n)+1).toNat else(2*n).toNat
def ua: Nat->Nat->aG
 | 0,c=>[UInt8.ofNat c]
 | f+1,c=>if c<128 then [UInt8.ofNat c]else UInt8.ofNat (128+c % 128)::ua f (c / 128)
def fM(n:Int): aG:=ua 9 (rU n)
def dn(s:aG): aG:=fM s.length++s
def NA{n:Int}(h : -9223372036854775808<=n)(h':n<=9223372036854775807): rU n<18446744073709551616:=by
 unfold rU;split<;>omega
def u8(n:Nat)(h:n<256): (UInt8.ofNat n).toNat=n:=by simp[UInt8.toNat_ofNat'];omega
def iK(v:eu): aG:=fM v.kind++(if v.kind=2 then dn v.s else if v.kind=1\/v.kind=3 then fM v.n else [])
def rV(l:List eu): aG:=fM l.length++l.flatMap iK
def xG{v:eu}(h:bT v=true): v.kind=0/\v=v0\/v.kind=1/\v.s=[]\/v.kind=2/\v.n=0/\v.s.length<=40\/v.kind=3/\v.s=[]:=by
 obtain⟨k,n,s⟩:=v;unfold bT at h;dsimp only at h ⊢;split at h
 ·left;simp at h;simp[v0, *]
 split at h
 ·right;left;simp at h;simp[*]
 split at h
 ·right;right;left;simp[gg]at h;simp[*]
 split at h
 ·right;right;right;simp at h;simp[*]
 ·cases h
def jv(n:Int): Prop:= -9223372036854775808<=n/\n<=9223372036854775807
def v7(l:List eu): Prop:=l.length<=2 ^ 30/\ ∀ v ∈ l,jv v.n/\v.s.length<=2 ^ 30
def mI(o:Bool)(c:cL): aG:=dn c.name++fM c.kind++(if o then rV c.order else [])
def kB(o:Bool)(l:List cL): aG:=fM l.length++l.flatMap (mI o)
def jT(r:eO): aG:=r.cells.flatMap dn++r.outs.flatMap dn
def uQ(t:Table): aG:=dn t.name++fM t.aZ++fM t.agg++kB false t.ins++kB true t.outs++fM t.rules.length++t.rules.flatMap jT
def ko(t:Table): aG × Int:=if(fC t).2.2.2≠0 then([],(fC t).2.2.2)else if iN (fC t).1 t=false then([],4)else if 1400<(uQ t).length then([],5)else (uQ t,0)
def O_{t:Table}{s:aG}(h:ko t=(s,0)): (fC t).2.2.2=0/\iN (fC t).1 t=true/\s=uQ t/\s.length<=1400:=by
 unfold ko at h;split at h
 ·rename_i h1;injection h with _ h2;exact absurd h2 h1
 split at h
 ·injection h with _ h2;cases h2
 split at h
 ·injection h with _ h2;cases h2
 ·rename_i h1 h2 h3;injection h with h4 _;exact⟨by omega,by simpa using h2,h4.symm,by rw[<-h4];omega⟩
def Kh{l:List cL}(h:iy l=0): l.length<=6/\ ∀ c ∈ l,fc c.name=true/\1<=c.kind/\c.kind<=3:=by
 have h6:l.length<=6:=by
  unfold iy at h;split at h
  ·omega
  ·omega
 refine⟨h6,fun c hc=>?_⟩;obtain⟨i,hi,rfl⟩:=bA hc;have e:l[i]=l.getD i default:=by rw[aj,aK hi];rfl
 rw[e];refine⟨?_,G2 h hi⟩;unfold iy at h;rw[if_neg (by omega)]at h;split at h
 ·rename_i j hj;have:=eL hj;simp[h]at this
 ·rename_i hn;have:=dy.1 hn i (by simpa using hi);have h0:nV l i=0:=by simpa using this
  unfold nV at h0;split at h0
  ·omega
  ·rename_i hh;have:=not_or.1 hh;simpa using this.1
def NB{s:aG}(h:fc s=true): s.length<=16:=by
 simp only[fc,aD,decide_eq_true_eq]at h;exact h.1.2
def NC{l:List cL}{b:Bool}(h:jk l b=0): iy l=0/\0<l.length/\ ∀ c ∈ l,gO c b=true:=by
 obtain⟨h1,h2⟩:=wZ h;refine⟨h1,h2,fun c hc=>?_⟩;unfold jk at h;rw[if_neg (by omega)]at h;split at h
 ·omega
 ·rename_i hh;have:=(not_or.1 hh).2;rw[List.any_eq_true]at this;cases hq:gO c b with
  | true=>rfl
  | false=>exact absurd ⟨c,hc,by rw[hq];rfl⟩ this
def R6{c:cL}{b:Bool}(h:gO c b=true)(hk:rS c): (b=false->c.order=[])/\c.order.length<=8/\ ∀ v ∈ c.order,bT v=true/\jv v.n:=by
 unfold gO at h;cases b with
 | false =>
   rw[if_neg (by simp),decide_eq_true_eq]at h;have:=List.length_eq_zero_iff.1 h;rw[this];exact⟨fun _=>rfl,by simp,by simp⟩
 | true =>
   rw[if_pos rfl,aD,decide_eq_true_eq,bq]at h;refine⟨fun h=>(by cases h),h.2.2,fun v hv=>?_⟩;refine⟨?_,(hk.2.2 v hv).1⟩;obtain⟨i,hi,rfl⟩:=bA hv;have:=h.1 i (by simpa using hi);simp only[pJ,aD]at this;have e:c.order[i]=c.order.getD i default:=by rw[aj,aK hi];rfl
   rw[e];exact this.1.1
def Pa{t:Table}(h:jA t=true): 1<=t.aZ/\t.aZ<=6/\0<=t.agg/\t.agg<=4:=by
 unfold jA at h;split at h
 ·cases h
 split at h
 ·omega
 split at h
 ·cases h
 ·omega
def yB{α : Type}{p : α-> α->Bool}(hp:∀ x y,p x y=true->x=y): ∀ {l m:List α},fL p l m=true->l=m:=by
 intro l
 induction l with
 | nil => intro m h; cases m with
   | nil=>rfl
   | cons=>simp[fL]at h
 | cons x l ih => intro m h; cases m with
   | nil=>simp[fL]at h
   | cons y m =>
     simp only[fL,aD]at h;rw[hp _ _ h.1,ih h.2]
def Hl(a b:cL)(h:gP a b=true): a=b:=by
 obtain⟨a1,a2,a3⟩:=a;obtain⟨b1,b2,b3⟩:=b;simp only[gP,aD,beq_iff_eq,decide_eq_true_eq]at h;obtain⟨⟨rfl,rfl⟩,h3⟩:=h;rw[yB (fun x y h=>by simpa using h) h3]
def Pb(a b:eO)(h:jx a b=true): a=b:=by
 obtain⟨a1,a2⟩:=a;obtain⟨b1,b2⟩:=b;simp only[jx,aD]at h;rw[yB (fun x y h=>by simpa using h) h.1,yB (fun x y h=>by simpa using h) h.2]
def Ho{a b:Table}(h:iN a b=true): a=b:=by
 obtain⟨a1,a2,a3,a4,a5,a6⟩:=a;obtain⟨b1,b2,b3,b4,b5,b6⟩:=b;simp only[iN,aD,beq_iff_eq,decide_eq_true_eq]at h;obtain⟨⟨⟨⟨⟨rfl,rfl⟩,rfl⟩,h4⟩,h5⟩,h6⟩:=h;rw[yB Hl h4,yB Hl h5,yB Pb h6]
def Wc: ∀(k c:Nat),(ua k c).length<=k+1:=by
 intro k
 induction k with
 | zero=>intro c;simp[ua]
 | succ k ih => intro c; rw [ua]; split
                ·simp
                ·have:=ih (c / 128);simp;omega
def fD(n:Int): (fM n).length<=10:=Wc 9 _
structure fy where
 kind:Int
 table:Table
 name:aG
 ver:Int
 row:List eu
 iw:Int
 jZ:Int
deriving Inhabited
def mB: fy:=⟨0,fh,[],0,[],0,0⟩
def lS(a b:fy): Bool:=decide (a.kind=b.kind) && iN a.table b.table && a.name==b.name && decide (a.ver=b.ver) && fL (fun x y=>x==y) a.row b.row && decide (a.iw=b.iw) && decide (a.jZ=b.jZ)
def rW(c:fy): fy:=⟨c.kind,if c.kind=1 then c.table else fh,if c.kind=2\/c.kind=3 then c.name else [],if c.kind=2\/c.kind=3 then c.ver else 0,if c.kind=2 then c.row else [],if c.kind=5\/c.kind=6 then c.iw else 0,if c.kind=5 then c.jZ else 0⟩
def oN(c:fy): Bool:=(decide (c.kind=1) || iN c.table fh) && (decide (c.kind=2\/c.kind=3) ||(c.name==[] && decide (c.ver=0))) && (decide (c.kind=2) || decide (c.row.length=0)) && (decide (c.kind=5\/c.kind=6) || decide (c.iw=0)) && (decide (c.kind=5) || decide (c.jZ=0))
def l9(n:Int): Bool:=decide (0<=n/\n<=1125899906842624)
def fq(c:fy): Int :=
 if c.kind=1/\(ko c.table).2≠0 then(ko c.table).2
 else if 1<=c.kind/\c.kind<=9/\oN c=true/\((c.kind=2\/c.kind=3)->fc c.name=true/\0<=c.ver/\c.ver<=2147483648)/\l9 c.iw=true/\l9 c.jZ=true/\c.row.length<=6/\c.row.all bT=true then 0 else 2
def jX(c:fy): Prop:=jv c.kind/\l7 c.table/\c.name.length<=2 ^ 30/\jv c.ver/\v7 c.row/\jv c.iw/\jv c.jZ
def Pc(c:fy): lS c (rW c)=oN c:=by
 obtain⟨k,t,n,v,r,f,m⟩:=c;have h1:=Ny t;have h2:fL (fun x y:eu=>x==y) r r=true:=qA r (fun x _=>by simp);have h3:fL (fun x y:eu=>x==y) r []=decide (r.length=0):=by cases r<;>simp[fL]
 unfold lS rW oN;dsimp only;by_cases k1:k=1
 ·subst k1;simp[h1,h3,Bool.and_assoc]
 by_cases k2:k=2
 ·subst k2;simp[h2,Bool.and_assoc]
 by_cases k3:k=3
 ·subst k3;simp[h3,Bool.and_assoc]
 by_cases k5:k=5
 ·subst k5;simp[h3,Bool.and_assoc]
 by_cases k6:k=6
 ·subst k6;simp[h3,Bool.and_assoc]
 simp[k1,k2,k3,k5,k6,h3,Bool.and_assoc]
def tB{c:fy}(h:fq c=0): (c.kind=1->(ko c.table).2=0)/\(1<=c.kind/\c.kind<=9/\oN c=true/\((c.kind=2\/c.kind=3)->fc c.name=true/\0<=c.ver/\c.ver<=2147483648)/\l9 c.iw=true/\l9 c.jZ=true/\c.row.length<=6/\c.row.all bT=true):=by
 unfold fq at h;split at h
 ·rename_i h1;exact absurd h h1.2
 ·rename_i h1;split at h
  ·rename_i h2;exact⟨fun hk=>Classical.not_not.1 fun hn=>h1 ⟨hk,hn⟩,h2⟩
  ·cases h
def R7{c:fy}(h:oN c=true): (c.kind=1\/c.table=fh)/\((c.kind=2\/c.kind=3)\/c.name=[]/\c.ver=0)/\(c.kind=2\/c.row=[])/\((c.kind=5\/c.kind=6)\/c.iw=0)/\(c.kind=5\/c.jZ=0):=by
 simp only[oN,aD,cz,decide_eq_true_eq,beq_iff_eq,List.length_eq_zero_iff]at h;obtain⟨⟨⟨⟨h1,h2⟩,h3⟩,h4⟩,h5⟩:=h;exact⟨h1.imp id Ho,h2,h3,h4,h5⟩
def I9: l7 fh:=⟨by decide,⟨by decide,fun c hc=>(by cases hc)⟩,⟨by decide,fun c hc=>(by cases hc)⟩,by decide,fun c hc=>(by cases hc)⟩
def xH: jv 0:=⟨by decide,by decide⟩
def Fe{v:eu}(h:bT v=true): v.s.length<=40:=by
 rcases xG h with⟨_,h⟩|⟨_,h⟩|⟨_,_,h⟩|⟨_,h⟩
 ·rw[h];decide
 ·rw[h];decide
 ·exact h
 ·rw[h];decide
def wrap_u64(x:Int): eS .u64 x=x % 18446744073709551616:=rfl
def wrap_u8(x:Int): eS .u8 x=x % 256:=rfl
def xor_zero(k:IntKind)(x:Nat)(h:x<2 ^ k.bits): ((BitVec.ofInt k.bits (x:Int)) ^^^ (BitVec.ofInt k.bits 0)).toNat=x:=by
 have:BitVec.ofInt k.bits 0=0#k.bits:=by simp
 rw[this,BitVec.xor_zero];simp[Nat.mod_eq_of_lt h]
def R8(x:Nat)(h:x<18446744073709551616)(y:Int)(hy:y % 18446744073709551616=18446744073709551615): ((BitVec.ofInt 64 (x:Int)) ^^^ (BitVec.ofInt 64 y)).toNat=18446744073709551615-x:=by
 have e:BitVec.ofInt 64 y=BitVec.allOnes 64:=by
  apply BitVec.eq_of_toNat_eq;rw[BitVec.toNat_ofInt,BitVec.toNat_allOnes];omega
 rw[e,BitVec.xor_allOnes,BitVec.toNat_not];have:(BitVec.ofInt 64 (x:Int)).toNat=x:=by rw[BitVec.toNat_ofInt];omega
 rw[this]
def Ug{n:Int}(h : -9223372036854775808<=n/\n<=9223372036854775807): jD .xor .u64 (eS .u64 (eS .u64 n*2)) (eS .u64 (n.fdiv 9223372036854775808))=rU n:=by
 rw[lp];show eS .u64 (((BitVec.ofInt 64 (eS .u64 (eS .u64 n*2))) ^^^ (BitVec.ofInt 64 (eS .u64 (n.fdiv 9223372036854775808)))).toNat:Int)=rU n;rw[Int.fdiv_eq_ediv_of_nonneg _ (by decide)];simp only[wrap_u64];unfold rU;by_cases hn:n<0
 ·rw[if_pos hn];have e1:(n % 18446744073709551616*2 % 18446744073709551616:Int)=((2*n+18446744073709551616).toNat:Int):=by omega
  rw[e1,R8 _ (by omega) _ (by omega)];omega
 ·rw[if_neg hn];have e1:(n % 18446744073709551616*2 % 18446744073709551616:Int)=((2*n).toNat:Int):=by omega
  have e2:(n / 9223372036854775808 % 18446744073709551616:Int)=0:=by omega
  rw[e1,e2];have:=xor_zero .u64 (2*n).toNat (by show _<18446744073709551616;omega);have e3:IntKind.u64.bits=64:=rfl;rw[e3]at this;rw[this];omega
def Wd(w k x:Nat)(hx:x<2 ^ w)(hk:k<=w): ((BitVec.ofInt w (x:Int)) &&& (BitVec.ofInt w ((2 ^ k-1:Nat):Int))).toNat=x % 2 ^ k:=by
 have h2:2 ^ k-1<2 ^ w:=cZ (Nat.sub_lt (Nat.pow_pos (by decide)) (by decide)) (Nat.pow_le_pow_right (by decide) hk);rw[BitVec.toNat_and];have e1:(BitVec.ofInt w (x:Int)).toNat=x:=by rw[BitVec.ofInt_natCast,BitVec.toNat_ofNat,Nat.mod_eq_of_lt hx]
 have e2:(BitVec.ofInt w ((2 ^ k-1:Nat):Int)).toNat=2 ^ k-1:=by rw[BitVec.ofInt_natCast,BitVec.toNat_ofNat,Nat.mod_eq_of_lt h2]
 rw[e1,e2,Nat.and_two_pow_sub_one_eq_mod]
def Wf{x:Int}{c:Nat}(h:x % 256=((c % 256:Nat):Int)): jD .and .u8 (eS .u8 x) 127=((c % 128:Nat):Int):=by
 rw[lp];show eS .u8 (((BitVec.ofInt 8 (eS .u8 x)) &&& (BitVec.ofInt 8 127)).toNat:Int)=_;have:=Wd 8 7 (c % 256) (by omega) (by decide);have e:((2 ^ 7-1:Nat):Int)=127:=by decide
 rw[e]at this;rw[wrap_u8 x,h,this,wrap_u8];omega
def aap{w k x:Nat}{y:Nat}(hx:x<2 ^ k)(hw:2 ^ k*y+x<2 ^ w): ((BitVec.ofInt w (x:Int)) |||(BitVec.ofInt w ((2 ^ k*y:Nat):Int))).toNat=2 ^ k*y+x:=by
 rw[BitVec.toNat_or];have e1:(BitVec.ofInt w (x:Int)).toNat=x:=by rw[BitVec.ofInt_natCast,BitVec.toNat_ofNat,Nat.mod_eq_of_lt (by omega)]
 have e2:(BitVec.ofInt w ((2 ^ k*y:Nat):Int)).toNat=2 ^ k*y:=by rw[BitVec.ofInt_natCast,BitVec.toNat_ofNat,Nat.mod_eq_of_lt (by omega)]
 rw[e1,e2,Nat.or_comm,Nat.two_pow_add_eq_or_of_lt hx]
def Uh{d:Nat}(h:d<128): jD .or .u8 (d:Int) 128=((128+d:Nat):Int):=by
 rw[lp];show eS .u8 (((BitVec.ofInt 8 (d:Int)) |||(BitVec.ofInt 8 128)).toNat:Int)=_;have:=aap (w:=8) (k:=7) (x:=d) (y:=1) (by omega) (by omega);have e:((2 ^ 7*1:Nat):Int)=128:=by decide
 rw[e]at this;rw[this,wrap_u8];omega
def Ck(c:Nat): UInt8:=UInt8.ofNat (c % 128)
def uR(c:Nat): UInt8:=UInt8.ofNat (128+c % 128)
def zP(c:Nat): ((c % 128:Nat):Int)=((Ck c).toNat:Int):=by rw[Ck,u8 _ (by omega)]
def Ui(c:Nat): jD .or .u8 ((Ck c).toNat:Int) 128=((uR c).toNat:Int):=by
 rw[<-zP,Uh (by omega),uR,u8 _ (by omega)]
def C6(s:aG)(b:UInt8): ot s++[AV.int .u8 b.toNat]=ot (s++[b]):=by simp
def ND{k c:Nat}(h:c<128): ua k c=[Ck c]:=by
 rw[Ck,Nat.mod_eq_of_lt h];cases k with
 | zero=>rfl
 | succ k=>rw[ua,if_pos h]
def Ki{k c:Nat}(h:128<=c): ua (k+1) c=uR c::ua k (c / 128):=by rw[ua,if_neg (by omega)];rfl
def R9(n:Int)(h:jv n): aH aE 121 [I n] (.int .u64 (rU n)):=by
 refine aJ KU ?_;intro Q au aA aB;repeat' first|refine aq ?_|refine ak ?_ ?_<;>intro hw<;>try omega|fail
 refine aL ?_ rfl;exact congrArg (AV.int .u64) (Ug h)
def Pd(c:Nat): aH aE 122 [.int .u64 c] (.int .u8 ((Ck c).toNat)):=by
 refine aJ AA ?_;intro Q au aA aB;repeat' first|refine aq ?_|refine ak ?_ ?_<;>intro hw<;>try omega|fail
 refine aL ?_ rfl;refine congrArg (AV.int .u8) ?_;rw[<-zP];exact Wf (by omega)
def mc(n:Int)(h:jv n): aH aE 76 [I n] (.str (fM n)):=by
 have hc:=NA h.1 h.2;obtain⟨E,hE⟩:∃ E,fM n=E:=⟨_,rfl⟩;rw[hE];unfold fM at hE;have h1:=R9 n h;generalize rU n=c0 at *;refine aJ Mk ?_;intro Q au aA aB;repeat' first|refine aq ?_|refine ak ?_ ?_<;>intro hw<;>try omega|fail
 with_reducible refine bn [3,4,8,9,10,11,12,13,14,15,16,17] (fun q:Nat × aG × Nat=>[(3,.int .u64 q.2.2),(4,.own E1 0 q.2.1.length 0 q.2.1.length)]) (fun q=>[.vec E1 (ot q.2.1)]) (fun q=>q.1<=9/\q.2.1.length=q.1/\q.2.2*128 ^ q.1<18446744073709551616/\E=q.2.1++ua (9-q.1) q.2.2) (fun q=>10-q.1) ((0,[],c0)) ?_ ?_ ?_ ?_
 ·exact⟨by omega,rfl,by show c0*1<_;omega,by simp[hE]⟩
 ·rfl
 ·exact at_
 rintro⟨i,s,c⟩ r ⟨g1,g2,g3,g4⟩;dsimp only at g1 g2 g3 g4;have hl:=Pd c;have hm:=Ui c
 have hq:(c:Int).fdiv (2 ^ (Int.toNat 7).min 64)=((c / 128:Nat):Int):=by
  show(c:Int).fdiv 128=_;rw[Int.fdiv_eq_ediv_of_nonneg _ (by decide)];omega
 by_cases hb:128<=c
 ·have hi : i < 9 := by
   rcases Nat.lt_or_ge i 9 with h|h
   ·exact h
   ·obtain rfl:i=9:=by omega
    have e:(128:Nat) ^ 9=9223372036854775808:=by decide
    rw[e]at g3;omega
  obtain⟨k,hk⟩:∃ k,9-i=k+1:=⟨8-i,by omega⟩;rw[hk,Ki hb]at g4;repeat' first|simp (disch:=omega) only[go_sem,au,aA,aB,hm,hq,C6]|refine aq ?_|refine ak ?_ ?_<;>intro hw<;>try omega|fail
  refine⟨(i+1,s++[uR c],c / 128),?_,?_,?_,bL,at_⟩<;>(try dsimp only)
  ·refine⟨by omega,by simp[g2],?_,?_⟩
   ·have e2 : c / 128 * 128 ^ (i + 1) = 128 * (c / 128) * 128 ^ i := by
     rw[Nat.pow_succ,Nat.mul_comm (128 ^ i) 128,<-Nat.mul_assoc,Nat.mul_comm (c / 128) 128]
    exact Nat.lt_of_le_of_lt (by rw[e2];exact bE _ (by omega)) g3
   ·have:9-(i+1)=k:=by omega
    rw[this];simp[g4]
  ·omega
  all_goals (simp[g2];done)
 ·rw[ND (by omega)]at g4;repeat' first|simp (disch:=omega) only[go_sem,au,aA,aB,C6]|refine aq ?_|refine ak ?_ ?_<;>intro hw<;>try omega|fail
  exact aL (by rw[g4]) rfl
def uS(s:aG)(hs:s.length<=2 ^ 61): aH aE 75 [.str s] (.str (dn s)):=by
 have h1:=mc s.length ⟨by omega,by omega⟩;have h2:=fD s.length;unfold dn;generalize fM s.length=x at *;refine aJ KP ?_;intro Q au aA aB;have Wg:((x.length+s.length:Nat):Int)<=IntKind.i64.max:=by show _<=(9223372036854775807:Int);omega
 repeat' first|refine aq ?_|refine ak ?_ ?_<;>intro hw<;>try omega|fail
 exact aL rfl rfl
