/- Part. -/
import Derived.Test.YtcjcnfcedihckaaGreatDoorW32
set_option linter.all false
namespace Go.Proofs.YtcjcnfcedihckaaGreatDoor
open Go.AM
set_option maxRecDepth 4000
abbrev bl(k:Nat): aI:=List.replicate k 32
def Qo{x:aI}(h:x≠[])(hd:x.head?≠some 32): ∀ k r,(bl k++(x++r)).dropWhile (· ==(32:UInt8))=x++r:=by
 intro k r
 induction k with
 | zero =>
   cases x with
   | nil=>exact absurd rfl h
   | cons c x =>
     have:c≠32:=fun e=>hd (by rw[e];rfl);show((c::(x++r)).dropWhile _)=_;rw[List.dropWhile_cons_of_neg (by simpa using this)];rfl
 | succ k ih =>
   rw[bl,List.replicate_succ,bD,List.dropWhile_cons_of_pos (by rfl)];exact ih
def Qp{y:UInt8}{x:aI}(h:Ok y x)(k m:Nat): n9 (bl k++(x++bl m))=x:=by
 unfold n9 Lib.trimB Lib.trimLeftB Lib.trimRightB;have e:(bl k++(x++bl m)).reverse=bl m++(x.reverse++bl k):=by simp[bl]
 have h1:x.reverse≠[]:=by simp[h.ne]
 rw[e,Qo h1 (by rw[List.head?_reverse];exact h.lt) m (bl k)];have e2:(x.reverse++bl k).reverse=bl k++(x++[]):=by simp[bl]
 rw[e2,Qo h.ne h.hd k []];simp
def YQ{y:UInt8}(hy:y≠32)(k:Nat): Qt y (bl k):=Qt.plain fun c hc=>by
 obtain rfl:=(List.mem_replicate.1 hc).2;exact⟨Ne.symm hy,by decide⟩
def As{y:UInt8}(hy:y≠32)(k m:Nat): ∀(l:List aI) (x:aI) (j:Nat),(∀ z ∈ x::l,Ok y z)->eo y false (bl j) (x++l.flatMap fun z=>bl k++(y::(bl m++z)))=x::l:=by
 intro l
 induction l with
 | nil =>
   intro x j h;have hx:=h x (by simp);rw[fq,hx.q];have:=Qp hx j 0;simp only[bl,List.replicate_zero,bS]at this;rw[eo,this]
 | cons z l ih =>
   intro x j h;have hx:=h x (by simp);rw[da,hx.q,bt,YQ hy k,bD,Vh,bt (bl j),Qp hx,bt,YQ hy m,cP];rw[ih z m (fun w hw=>h w (bF _ hw))]
def join_cons(x:aI)(l:List aI)(sep:aI): Lib.join (x::l) sep=x++l.flatMap fun z=>sep++z:=by
 unfold Lib.join
 induction l generalizing x with
 | nil=>simp[List.intercalate]
 | cons u r ih=>rw[List.intercalate_cons_cons,ih u,da,bt,bt]
def G3{l:List eu}(hl:l≠[])(h:∀ v ∈ l,bT v=true): fG (pF l) 44=l.map eN:=by
 obtain⟨v,r,rfl⟩:∃ v r,l=v::r:=by
  cases l with
  | nil=>exact absurd rfl hl
  | cons v r=>exact⟨v,r,rfl⟩
 unfold fG pF;rw[aZ,join_cons]
 exact As (y:=44) (by decide) 0 1 (r.map eN) (eN v) 0 (fun z hz=>by
  rcases List.mem_cons.1 hz with rfl|hz
  ·exact Ok.val (.inl rfl) (h v (by simp))
  ·obtain⟨w,hw,rfl⟩:=cC.1 hz;exact Ok.val (.inl rfl) (h w (bF _ hw)))
def Kh{l:List aI}(hl:l≠[])(h:∀ z ∈ l,Ok 124 z): fG (kN l) 124=l:=by
 obtain⟨v,r,rfl⟩:∃ v r,l=v::r:=by
  cases l with
  | nil=>exact absurd rfl hl
  | cons v r=>exact⟨v,r,rfl⟩
 unfold fG kN;rw[join_cons];exact As (y:=124) (by decide) 1 1 r v 0 h
def Vi{l:List aI}(hl:l≠[])(h:∀ z ∈ l,Ok 58 z): Ok 58 (kN l):=by
 obtain⟨v,r,rfl⟩:∃ v r,l=v::r:=by
  cases l with
  | nil=>exact absurd rfl hl
  | cons v r=>exact⟨v,r,rfl⟩
 unfold kN;rw[join_cons]
 have key:∀ (r:List aI) (w:aI),Ok 58 w->(∀ z ∈ r,Ok 58 z)->Ok 58 (w++r.flatMap fun z=>[32,124,32]++z):=by
  intro r
  induction r with
  | nil=>intro w hw _;simpa using hw
  | cons z r ih =>
    intro w hw hz;have:=ih _ (hw.mid (m:=[32,124,32]) (by unfold Eb;decide) (hz z (by simp))) (fun u hu=>hz u (List.mem_cons_of_mem _ hu));simpa using this
 exact key r v (h v (by simp)) (fun z hz=>h z (bF _ hz))
def O_{a b:aI}(ha:Ok 58 a)(hb:Ok 58 b): fG (a++([32,58,32]++b)) 58=[a,b]:=by
 have:=As (y:=58) (by decide) 1 1 [b] a 0 (fun z hz=>by
  simp only[List.mem_cons,List.not_mem_nil,or_false]at hz;rcases hz with rfl|rfl
  ·exact ha
  ·exact hb)
 simpa[fG]using this
def ze{c:UInt8}(r:aI): ∀ {a:aI},(∀ x ∈ a,x≠c)->cH c (a++(c::r))=(a,r,true)
 | [],_=>by rw[cP,cH,if_pos rfl]
 | x :: a, h => by
   rw[bD,cH,if_neg (h x (by simp)),ze r (fun y hy=>h y (by simp[hy]))]
def Qq{c:UInt8}: ∀ {a:aI},(∀ x ∈ a,x≠c)->cH c a=(a,[],false)
 | [],_=>rfl
 | x :: a, h => by
   rw[cH,if_neg (h x (by simp)),Qq (fun y hy=>h y (by simp[hy]))]
def kZ(s:aI): Prop:= ∀ x ∈ s,x≠(32:UInt8)
def XJ{s:aI}(h:∀ c ∈ s,oS c=true): kZ s:=fun c hc e=>(zd (y:=44) (.inl rfl) (h c hc)).2.2.2 (by rw[e];rfl)
def w8(n:Int): kZ (Lib.itoa n):=fun c hc e=>by
 subst e;have hd:∀ u,∀ c ∈ Lib.decDigits u,dW c=true:=fun u=>(pY u).2.1;unfold Lib.itoa at hc;split at hc
 ·rcases List.mem_cons.1 hc with h|h
  ·exact absurd h (by decide)
  ·exact absurd (hd _ _ h) (by decide)
 ·exact absurd (hd _ _ hc) (by decide)
def w9{s:aI}(h:eV s=true): kZ s:=by
 simp only[eV,aq,decide_eq_true_eq]at h;exact XJ (xZ h.1.1.1 h.1.1.2).2
def Sz: ∀(l:List aI) (x:aI) (n:Nat),(∀ z ∈ x::l,kZ z)->l.length<=n->pieces n (cg (x::l))=x::l:=by
 intro l
 induction l with
 | nil =>
   intro x n h _;have e:cg [x]=x:=by unfold cg;rw[join_cons];simp
   rw[e];cases n with
   | zero=>rfl
   | succ n=>rw[pieces,Qq (h x (by simp)),if_neg (by simp)]
 | cons z l ih =>
   intro x n h hn;obtain⟨n,rfl⟩:∃ m,n=m+1:=⟨n-1,by simp at hn;omega⟩;have e:cg (x::z::l)=x++(32::cg (z::l)):=by unfold cg;rw[join_cons,join_cons];simp
   rw[e,pieces,ze _ (h x (by simp)),if_pos rfl];dsimp only;rw[ih z n (fun w hw=>h w (bF _ hw)) (by simp at hn;omega)]
def Pa(r:aI): ∀(l:List aI) (x:aI),(∀ z ∈ x::l,kZ z)->pieces (l.length+1) (cg (x::l)++(32::r))=(x::l)++[r]:=by
 intro l
 induction l with
 | nil =>
   intro x h;have e:cg [x]=x:=by unfold cg;rw[join_cons];simp
   rw[e,pieces,ze _ (h x (by simp)),if_pos rfl];rfl
 | cons z l ih =>
   intro x h;have e:cg (x::z::l)=x++(32::cg (z::l)):=by unfold cg;rw[join_cons,join_cons];simp
   rw[e,bt,bD,pieces,ze _ (h x (by simp)),if_pos rfl];dsimp only;rw[List.length_cons,ih z (fun w hw=>h w (bF _ hw))];rfl
def rR{l:List aI}{n:Nat}(hl:l≠[])(h:∀ z ∈ l,kZ z)(hn:l.length=n): cn (cg l) n=(l,[],true):=by
 obtain⟨x,r,rfl⟩:∃ v r,l=v::r:=by
  cases l with
  | nil=>exact absurd rfl hl
  | cons v r=>exact⟨v,r,rfl⟩
 have e:=Sz r x n h (by simp at hn;omega);unfold cn;rw[e,if_neg (by omega),if_pos hn]
def Au{l:List aI}{n:Nat}(hl:l≠[])(h:∀ z ∈ l,kZ z)(hn:l.length=n){r:aI}(hr:r≠[]): cn (cg l++(32::r)) n=(l,r,true):=by
 obtain⟨x,q,rfl⟩:∃ v r,l=v::r:=by
  cases l with
  | nil=>exact absurd rfl hl
  | cons v r=>exact⟨v,r,rfl⟩
 subst hn;have e:=Pa r q x h;rw[List.length_cons]at *;unfold cn;rw[e,if_neg (by simp),if_neg (by simp)];have e1:((x::q)++[r]).take (q.length+1)=x::q:=by rw[List.take_left' (by simp)]
 have e2:((x::q)++[r]).getD (q.length+1) []=r:=by
  rw[aj,bE (by simp)];simp
 rw[e1,e2,decide_eq_true hr]
def Vj: ∀(a b:aI) (acc:Nat),Lib.parseUint10 acc (a++b)=match Lib.parseUint10 acc a with | .ok v=>Lib.parseUint10 v b | .syntax=> .syntax | .range=> .range:=by
 intro a
 induction a with
 | nil=>intro b acc;rfl
 | cons c a ih =>
   intro b acc;rw[bD,Lib.parseUint10,Lib.parseUint10];split
   ·split
    ·rfl
    ·split
     ·rfl
     ·exact ih b _
   ·rfl
def Ki(u:Nat): u<=9223372036854775808->Lib.parseUint10 0 (Lib.decDigits u) = .ok u:=by
 induction u using Nat.strongRecOn with
 | _ u ih =>
   intro hu;by_cases h:u<10
   ·rw[pU h,Lib.parseUint10,x2 h,if_pos (by omega),if_neg (by omega),if_neg (by omega),Lib.parseUint10]
    congr 1;omega
   ·have hd:u % 10<10:=Nat.mod_lt _ (by omega);rw[gV (by omega),Vj,ih (u / 10) (by omega) (by omega)];dsimp only;rw[Lib.parseUint10,x2 hd,if_pos (by omega),if_neg (by omega),if_neg (by omega),Lib.parseUint10]
    congr 1;omega
def Vk{n:Int}(h:iE n): Lib.atoiAll (Lib.itoa n) = .ok n:=by
 obtain⟨h0,h1⟩:=h;unfold Lib.itoa;split
 ·rename_i hn;have hp:=Ki n.natAbs (by omega);unfold Lib.atoiAll;dsimp only;rw[if_pos (by decide)];unfold Lib.parseMag;rw[if_neg (pY _).1,hp];dsimp only;rw[if_neg (by simp),if_neg (by simp;omega),if_pos (by decide)]
  congr 1;omega
 ·rename_i hn;have hp:=Ki n.toNat (by omega);obtain⟨d1,d2,_,_⟩:=pY n.toNat
  generalize Lib.decDigits n.toNat=s at *;cases s with
  | nil=>exact absurd rfl d1
  | cons c r =>
    have hc:=d2 c (by simp);simp only[dW,aq,decide_eq_true_eq]at hc;unfold Lib.atoiAll;dsimp only;rw[if_neg (by omega)];unfold Lib.parseMag;rw[if_neg (by simp),hp];dsimp only;rw[if_neg (by omega),if_neg (by omega),if_neg (by omega)]
    congr 1;omega
def oa{n:Int}(h:iE n): fV (Lib.itoa n)=(n,true):=by
 unfold fV;rw[Vk h];dsimp only;rw[if_pos rfl]
def Qr {v : eu} {s : aI} {T : List Tok} {t : Tok} (hs : bG s = (T, 0, 0)) (hT : T.length = 1 \/ T.length = 2) (ht : T.getD (T.length - 1) default = t)
    (hv:(if t.kind=3 then(⟨2,0,t.s⟩:eu)else if t.kind=2 then⟨1,if T.length=2 then -t.n else t.n,[]⟩else if t.s=qV then⟨3,1,[]⟩else if t.s=ou then⟨3,0,[]⟩else v0)=v) (he:eN v=s):rD s=v/\wY s=true:=by
 have e:rD s=v:=by
  unfold rD;rw[hs];dsimp only;rw[if_neg (by omega),ht];exact hv
 refine⟨e,?_⟩;unfold wY;rw[hs];dsimp only;rw[if_neg (by omega),e,decide_eq_true he]
def Vl{T:List Tok}{ks:List TK}(h:T.map tk=ks){i:Nat}(hi:i<ks.length): tk (T.getD i default)=ks.getD i default:=by
 subst h;simp only[bY]at hi;simp[aj,hi]
def SA: aI:=[45,57,50,50,51,51,55,50,48,51,54,56,53,52,55,55,53,56,48,56]
def Nz: Lib.itoa (-9223372036854775808)=SA:=by
 have e0:Lib.decDigits 9223372036854775808=Lib.decDigits 922337203685477580++[UInt8.ofNat (48+8)]:=gV (by decide);have e1:Lib.decDigits 922337203685477580=Lib.decDigits 92233720368547758++[UInt8.ofNat (48+0)]:=gV (by decide);have e2:Lib.decDigits 92233720368547758=Lib.decDigits 9223372036854775++[UInt8.ofNat (48+8)]:=gV (by decide);have e3:Lib.decDigits 9223372036854775=Lib.decDigits 922337203685477++[UInt8.ofNat (48+5)]:=gV (by decide);have e4:Lib.decDigits 922337203685477=Lib.decDigits 92233720368547++[UInt8.ofNat (48+7)]:=gV (by decide);have e5:Lib.decDigits 92233720368547=Lib.decDigits 9223372036854++[UInt8.ofNat (48+7)]:=gV (by decide);have e6:Lib.decDigits 9223372036854=Lib.decDigits 922337203685++[UInt8.ofNat (48+4)]:=gV (by decide);have e7:Lib.decDigits 922337203685=Lib.decDigits 92233720368++[UInt8.ofNat (48+5)]:=gV (by decide);have e8:Lib.decDigits 92233720368=Lib.decDigits 9223372036++[UInt8.ofNat (48+8)]:=gV (by decide);have e9:Lib.decDigits 9223372036=Lib.decDigits 922337203++[UInt8.ofNat (48+6)]:=gV (by decide);have e10:Lib.decDigits 922337203=Lib.decDigits 92233720++[UInt8.ofNat (48+3)]:=gV (by decide);have e11:Lib.decDigits 92233720=Lib.decDigits 9223372++[UInt8.ofNat (48+0)]:=gV (by decide);have e12:Lib.decDigits 9223372=Lib.decDigits 922337++[UInt8.ofNat (48+2)]:=gV (by decide);have e13:Lib.decDigits 922337=Lib.decDigits 92233++[UInt8.ofNat (48+7)]:=gV (by decide);have e14:Lib.decDigits 92233=Lib.decDigits 9223++[UInt8.ofNat (48+3)]:=gV (by decide);have e15:Lib.decDigits 9223=Lib.decDigits 922++[UInt8.ofNat (48+3)]:=gV (by decide);have e16:Lib.decDigits 922=Lib.decDigits 92++[UInt8.ofNat (48+2)]:=gV (by decide);have e17:Lib.decDigits 92=Lib.decDigits 9++[UInt8.ofNat (48+2)]:=gV (by decide);have e18:Lib.decDigits 9=[UInt8.ofNat (48+9)]:=pU (by decide);have h:Lib.itoa (-9223372036854775808)=45::Lib.decDigits 9223372036854775808:=rfl;rw[h,e0,e1,e2,e3,e4,e5,e6,e7,e8,e9,e10,e11,e12,e13,e14,e15,e16,e17,e18];rfl
def Z0: wY SA=false:=by decide +kernel
def Z1{v:eu}(hr:bT v=true)(hv:iE v.n)(hn:v.kind≠1\/ -9223372036854775808<v.n): rD (eN v)=v/\wY (eN v)=true:=by
 have hl:=xS v hv.1 hv.2 hr;by_cases h1:v.kind≠1\/0<=v.n
 ·obtain⟨T,hT,hk⟩:=Qj (abP hr h1 hv.2) (by omega);have wG:T.length=1:=by rw[<-bY (f:=tk),hk];rfl
  have ht:=Vl hk (i:=0) (by simp);refine Qr hT (.inl wG) rfl ?_ rfl;rw[wG];simp only[aT]at ht;simp only[Nat.sub_self];generalize T.getD 0 default=t at ht ⊢;obtain⟨a,b,c,d⟩:=t;obtain⟨vk,vn,vs⟩:=v;unfold tk Sj at ht;unfold bT at hr;dsimp only at *;by_cases k0:vk=0
  ·subst k0;simp at hr ht;obtain⟨rfl,rfl⟩:=hr;obtain⟨rfl,rfl,rfl⟩:=ht;rfl
  by_cases k1:vk=1
  ·subst k1;simp at hr ht;obtain⟨rfl,rfl,rfl⟩:=ht;subst hr;simp
  by_cases k2:vk=2
  ·subst k2;simp at hr ht;obtain⟨rfl,rfl,rfl⟩:=ht;obtain⟨rfl,_⟩:=hr;simp
  by_cases k3:vk=3
  ·subst k3;simp at hr ht;obtain⟨rfl,rfl,rfl⟩:=ht;obtain⟨rfl,rfl|rfl⟩:=hr
   ·rfl
   ·rfl
  ·simp[k0,k1,k2,k3]at hr
 ·have hk:v.kind=1:=Classical.not_not.1 (not_or.1 h1).1;have hneg:v.n<0:=by omega
  obtain⟨vk,vn,vs⟩:=v;dsimp only at *;subst hk;have hs:vs=[]:=by simpa[bT]using hr
  subst hs
  have e:eN ⟨1,vn,[]⟩=[45]++Lib.itoa (-vn):=by
   unfold eN Lib.itoa;dsimp only;rw[if_pos rfl,if_pos hneg,if_neg (by omega)];have:vn.natAbs=(-vn).toNat:=by omega
   rw[this];rfl
  have hx:Lx Bd ([45]++Lib.itoa (-vn)) [(4,[45],0),(2,[],-vn)]:=(ZS (m:=[45]) (by decide)).app (UY (n:= -vn) (by omega) (by omega)) (fun _ _=>trivial);rw[<-e]at hx;obtain⟨T,hT,hk⟩:=Qj hx (by omega);have uQ:T.length=2:=by rw[<-bY (f:=tk),hk];rfl
  have ht:=Vl hk (i:=1) (by simp);refine Qr hT (.inr uQ) rfl ?_ rfl;rw[uQ];simp only[aT,cq]at ht;simp only[Nat.reduceSub];generalize T.getD 1 default=t at ht ⊢;obtain⟨a,b,c,d⟩:=t;unfold tk at ht;dsimp only at *;simp only[Prod.mk.injEq]at ht;obtain⟨rfl,rfl,rfl⟩:=ht;rw[if_neg (by decide),if_pos rfl];simp
def NA{v:eu}(hr:bT v=true)(hv:iE v.n): oK (eN v)=v/\uu (eN v)=true:=by
 by_cases hn:v.kind≠1\/ -9223372036854775808<v.n
 ·obtain⟨h1,h2⟩:=Z1 hr hv hn;unfold oK uu;rw[h2,if_pos rfl];exact⟨h1,rfl⟩
 ·obtain⟨h0,h1⟩:=hv;have hk:v.kind=1:=Classical.not_not.1 (not_or.1 hn).1;have hm:v.n = -9223372036854775808:=by omega
  obtain⟨vk,vn,vs⟩:=v;dsimp only at *;subst hk;subst hm;have hs:vs=[]:=by simpa[bT]using hr
  subst hs
  have e:eN ⟨1,-9223372036854775808,[]⟩=SA:=by
   unfold eN;rw[if_pos rfl];exact Nz
  have l:fV SA=(-9223372036854775808,true):=by rw[<-Nz];exact oa ⟨by decide,by decide⟩
  unfold oK uu qP;rw[e,Z0,l];exact⟨rfl,rfl⟩
def G4{l:List eu}(hl:l≠[])(h:∀ v ∈ l,bT v=true/\iE v.n): kA (pF l)=(l,true):=by
 have e:=G3 hl (fun v hv=>(h v hv).1)
 have e2:(l.map eN).map oK=l:=by
  rw[List.map_map]
  conv=>rhs;rw[<-List.map_id l]
  exact List.map_congr_left (fun v hv=>(NA (h v hv).1 (h v hv).2).1)
 unfold kA;rw[e,if_pos (by rw[aW];intro s hs;obtain⟨v,hv,rfl⟩:=cC.1 hs;exact(NA (h v hv).1 (h v hv).2).2),e2,decide_eq_true rfl]
def Vm{l:List eu}(hl:l≠[])(h:∀ v ∈ l,bT v=true): pF l≠[]:=fun e=>by
 have k:=G3 hl h;rw[e]at k
 obtain⟨v,r,rfl⟩:∃ v r,l=v::r:=by
  cases l with
  | nil=>exact absurd rfl hl
  | cons v r=>exact⟨v,r,rfl⟩
 have:n9 []=eN v:=by
  have:=congrArg (fun q=>q.getD 0 []) k;simpa[fG,eo]using this
 exact(Ok.val (y:=44) (.inl rfl) (h v (by simp))).ne (by rw[<-this];rfl)
def XK{α : Type}[Inhabited α]{p : α->Bool}{l:List α}{i:Nat}(h:fy p l=i): i<l.length/\p (l.getD i default)=true/\ ∀ j,j<i->p (l.getD j default)=false:=by
 unfold fy at h;split at h
 ·rename_i k hk;have:k=i:=by omega
  subst this;obtain⟨h1,h2,h3⟩:=List.findIdx?_eq_some_iff_getElem.1 hk;refine⟨h1,by simpa[aj,h1]using h2,fun j hj=>?_⟩;have:=h3 j hj;simpa[aj,(by omega:j<l.length)]using this
 ·omega
def CO{α : Type}[Inhabited α]{l:List α}{k i:Nat}(h:i<k): (l.take k).getD i default=l.getD i default:=by
 simp[aj,List.getElem?_take,h]
def mQ{l:List cR}(h:jc l=0): l.length<=6/\ ∀ k,k<l.length->oI l k=0:=by
 unfold jc at h;split at h
 ·omega
 rename_i h6;refine⟨by omega,?_⟩;split at h
 ·rename_i j hj;have:=dN hj;simp[h]at this
 ·rename_i hn;intro k hk;have:=dm.1 hn k (by simpa using hk);simpa using this
def x7{l:List cR}{i:Nat}(h:oI l i=0): eV (l.getD i default).name=true/\tf l (l.getD i default).name=i/\1<=(l.getD i default).kind/\(l.getD i default).kind<=3:=by
 unfold oI at h;split at h
 ·omega
 ·rename_i h1;split at h
  ·omega
  ·simp only[not_or,Bool.not_eq_false,Classical.not_not]at h1;exact⟨h1.1,h1.2,by omega,by omega⟩
def Z2{l:List cR}{i:Nat}(h1:eV (l.getD i default).name=true)(h2:tf l (l.getD i default).name=i)(h3:1<=(l.getD i default).kind)(h4:(l.getD i default).kind<=3): oI l i=0:=by
 unfold oI;rw[if_neg (fun h=>h.elim (fun h=>by rw[h1]at h;cases h) (fun h=>h h2)),if_neg (by omega)]
def SB{l:List cR}(h:jc l=0)(k:Nat): jc (l.take k)=0:=by
 obtain⟨h6,hz⟩:=mQ h;refine JV (by simp;omega) (fun i hi=>?_);simp only[List.length_take]at hi;obtain⟨a,b,c,d⟩:=x7 (hz i (by omega));have e:=CO (l:=l) (k:=k) (i:=i) (by omega);refine Z2 (by rw[e];exact a) ?_ (by rw[e];exact c) (by rw[e];exact d);rw[e];unfold tf at b ⊢;obtain⟨b1,b2,b3⟩:=XK b;exact lU (by simp;omega) (fun j hj=>by rw[CO (by omega)];exact b3 j hj) (by rw[e];exact b2)
def gH{l:List cR}{b:Bool}(h:jt l b=0): jc l=0/\0<l.length/\ ∀ c ∈ l,iG c b=true:=by
 obtain⟨h1,h2⟩:=xW h;refine⟨h1,h2,fun c hc=>?_⟩;unfold jt at h;rw[if_neg (by omega)]at h;split at h
 ·omega
 ·rename_i h3;have h4:=(not_or.1 h3).2;rw[Bool.not_eq_true,fZ]at h4;simpa using h4 c hc
def Z3{l:List cR}{b:Bool}(h1:jc l=0)(h2:0<l.length)(h3:∀ c ∈ l,iG c b=true): jt l b=0:=by
 unfold jt;rw[if_neg (by omega),if_neg];rintro(h|h)
 ·omega
 ·rw[List.any_eq_true]at h;obtain⟨c,hc,h⟩:=h;rw[h3 c hc]at h;cases h
def Kj{l:List cR}{b:Bool}(h:jt l b=0){k:Nat}(hk:0<k): jt (l.take k) b=0:=by
 obtain⟨h1,h2,h3⟩:=gH h;exact Z3 (SB h1 k) (by simp;omega) (fun c hc=>h3 c (List.mem_of_mem_take hc))
def n_(p:Int): List cR:=[⟨[111],1,if p=3 then [⟨1,0,[]⟩]else []⟩]
def Vn(p:Int): jt (n_ p) (decide (p=3))=0:=by
 unfold n_;by_cases h:p=3
 ·rw[if_pos h,decide_eq_true h];decide
 ·rw[if_neg h,decide_eq_false h];decide
def jB{t:Table}(h:ic t=0): eV t.name=true/\jt t.ins false=0/\jt t.outs (decide (t.aM=3))=0/\jd t=true/\t.rules.length<=24:=by
 unfold ic at h;split at h
 ·omega
 rename_i h1;split at h
 ·omega
 rename_i h2;split at h
 ·omega
 rename_i h3;split at h
 ·omega
 rename_i h4;split at h
 ·omega
 rename_i h5;exact⟨by simpa using h1,by omega,by omega,by simpa using h4,by omega⟩
def Fv{t:Table}(h1:eV t.name=true)(h2:jt t.ins false=0)(h3:jt t.outs (decide (t.aM=3))=0)(h4:jd t=true)(h5:t.rules.length<=24): ic t=0:=by
 unfold ic;rw[if_neg (by rw[h1];simp),if_neg (by omega),if_neg (by omega),if_neg (by rw[h4];simp),if_neg (by omega)]
def sZ{t:Table}(h:jd t=true): 1<=t.aM/\t.aM<=6/\0<=t.agg/\t.agg<=4/\(t.agg=0\/t.aM=5/\t.outs.length=1):=by
 unfold jd at h;split at h
 ·cases h
 split at h
 ·omega
 split at h
 ·cases h
 ·omega
def Pb{t:Table}(h:jd t=true)(n:aI)(i:List cR)(r:List eE): jd ⟨n,i,n_ t.aM,t.aM,t.agg,r⟩=true:=by
 obtain⟨a,b,c,d,e⟩:=sZ h;unfold jd;dsimp only;rw[if_neg (by omega)];split
 ·rfl
 rw[if_neg (by simp[n_];omega)];simp[n_]
def Pc{t:Table}(h:jd t=true)(n:aI)(i:List cR)(r:List eE){k:Nat}(hk:0<k): jd ⟨n,i,t.outs.take k,t.aM,t.agg,r⟩=true:=by
 obtain⟨a,b,c,d,e⟩:=sZ h;rcases e with e|⟨_,e⟩
 ·unfold jd;dsimp only;rw[if_neg (by omega),if_pos e]
 ·have:t.outs.take k=t.outs:=bw (by omega);rw[this];exact h
structure qQ (t:Table):Prop where
 frame:ic t=0
 clean:ff t=(t,0,0,0)
 len:(x4 t).length<=1400
def CP{t:Table}(h:(jI t).2=0): qQ t:=by
 obtain⟨h1,h2,h3,h4⟩:=O4 (t:=t) (s:=(jI t).1) (by rw[<-h]);obtain⟨c1,c2,c3⟩:=qN h1;have e:=sW h2;refine⟨(pX c1).1,?_,by rw[<-h3];exact h4⟩;rw[c3]at e ⊢;exact congrArg (fun q=>(q,(0:Int),(0:Int),(0:Int))) e
def Vo{t:Table}(h:qQ t): (jI t).2=0:=by
 have:=h.len;unfold jI;rw[h.clean];dsimp only;rw[if_neg (by omega),if_neg (by rw[wV];simp),if_neg (by omega)]
def Av{v:Table}(hi:v.ins≠[])(h:qQ (je v)): dP v=true:=by
 have hi':v.ins.length≠0:=fun e=>hi (List.length_eq_zero_iff.1 e);have hb:=Vo h;unfold dP;rw[if_neg hi',h.clean];dsimp only;rw[wV,hb];rfl
def G5{t:Table}(hf:ic t=0)(hr:t.rules=[]): ff t=(t,0,0,0):=by
 have hm:eG t=(⟨t,nw t t.rules.length⟩,0,0,0):=Ai hf (fun j hj=>by rw[hr]at hj;exact absurd hj (cE _));have hl:(eG t).1.lines.length=0:=by rw[hm];dsimp only;rw[nR,hr];rfl
 rw[xY (by rw[hm]) (fun j hj=>by omega),hl];obtain⟨a,b,c,d,e,f⟩:=t;dsimp only at hr;subst hr;rfl
def oc{k:Nat}(h:k<=24): (iZ k).length=1:=by
 have:∀ k:Fin 25,(iZ (k.val:Int)).length=1:=by decide
 exact this ⟨k,by omega⟩
def rE(n:Int): 1<=(iZ n).length:=by
 unfold iZ;rw[u9];split
 ·simp
 ·simp
def CQ{α : Type}(f : α->aI)(l:List α)(k:Nat): ((l.take k).flatMap f).length<=(l.flatMap f).length:=by
 conv=>rhs;rw[<-List.take_append_drop k l]
 rw[List.flatMap_append,aA];omega
def G6{o:Bool}{l:List cR}(h:l.length<=6)(k:Nat): (lH o (l.take k)).length<=(lH o l).length:=by
 unfold lH;rw[aA,aA,oc (by simp;omega),oc (by omega)];have:=CQ (qX o) l k;omega
def SC{v:eu}(h:1<=v.kind/\v.kind<=3): 2<=(lu v).length:=by
 unfold lu;have h1:=rE v.kind;rw[aA];split
 ·unfold gG;rw[List.length_append];have:=rE v.s.length;omega
 ·rw[if_pos (by omega)];have:=rE v.n;omega
def SD{p:Int}{l:List cR}(h:jt l (decide (p=3))=0): (lH true (n_ p)).length<=(lH true l).length:=by
 obtain⟨h1,h2,h3⟩:=gH h;obtain⟨h6,hz⟩:=mQ h1
 obtain⟨c,r,rfl⟩:∃ c r,l=c::r:=by
  cases l with
  | nil=>simp at h2
  | cons c r=>exact⟨c,r,rfl⟩
 obtain⟨a,_,b1,b2⟩:=x7 (hz 0 (by simp));simp only[aT]at a b1 b2;have ho:=h3 c (by simp)
 have hn:c.name≠[]:=by
  simp only[eV,aq,decide_eq_true_eq]at a;exact a.1.1.1
 have hn1:1<=c.name.length:=by
  cases hq:c.name with
  | nil=>exact absurd hq hn
  | cons x y=>simp
 have e1:=rE c.name.length;have e2:=rE c.kind;have e3:=oc (k:=(c::r).length) (by omega);unfold lH;rw[da,aA,aA,aA,e3];unfold qX gG n_;simp only[if_true,aA,da,fq,bS,List.length_singleton,List.length_cons,List.length_nil];have z1:(iZ ((0+1:Nat):Int)).length=1:=by decide
 have z2:(iZ (1:Int)).length=1:=by decide
 simp only[z1,z2];by_cases hp:p=3
 ·rw[if_pos hp];rw[decide_eq_true hp]at ho;unfold iG at ho;simp only[if_true,aq,decide_eq_true_eq,aW]at ho;obtain⟨o1,o2,o3⟩:=ho
  obtain⟨v,q,hv⟩:∃ v q,c.order=v::q:=by
   cases hq:c.order with
   | nil=>rw[hq]at o2;simp at o2
   | cons x y=>exact⟨x,y,rfl⟩
  have hk:=o1 0 (by simp;omega);unfold pA at hk;simp only[aq,decide_eq_true_eq]at hk;rw[hv]at hk;simp only[aT]at hk;have h2:=SC (v:=v) (by omega);have e4:=rE c.order.length;have z3:(rA [⟨1,0,[]⟩]).length=3:=by decide
  have z4:3<=(rA c.order).length:=by
   unfold rA;rw[aA]
   conv=>rhs;rw[hv]
   rw[da,aA];rw[hv]at e4;omega
  rw[z3];omega
 ·rw[if_neg hp];have z3:(rA []).length=1:=by decide
  have z4:1<=(rA c.order).length:=by
   unfold rA;rw[aA];have:=rE c.order.length;omega
  rw[z3];omega
def Z4{t:Table}(h:qQ t){k:Nat}(hk:0<k): dP ⟨t.name,t.ins.take k,[],t.aM,t.agg,[]⟩=true:=by
 obtain⟨f1,f2,f3,f4,f5⟩:=jB h.frame;obtain⟨g1,g2,_⟩:=gH f2;obtain⟨g6,_⟩:=mQ g1;have hf:je ⟨t.name,t.ins.take k,[],t.aM,t.agg,[]⟩=⟨t.name,t.ins.take k,n_ t.aM,t.aM,t.agg,[]⟩:=rfl;refine Av (fun e=>?_) ?_
 ·have:(t.ins.take k).length=0:=by rw[show t.ins.take k=[] from e];rfl
  simp at this;rcases this with h|h
  ·omega
  ·rw[h]at g2;simp at g2
 rw[hf];have hfr:ic ⟨t.name,t.ins.take k,n_ t.aM,t.aM,t.agg,[]⟩=0:=Fv f1 (Kj f2 hk) (Vn t.aM) (Pb f4 _ _ _) (bR _);refine⟨hfr,G5 hfr rfl,?_⟩;have l1:=h.len;have l2:=G6 (o:=false) g6 k;have l3:=SD f3;have l4:=oc (k:=t.rules.length) (by omega);have l5:=oc (k:=0) (by omega);unfold x4 at l1 ⊢;dsimp only;simp only[aA,List.length_nil,fq]at l1 ⊢;omega
def XL{t:Table}(h:qQ t){k:Nat}(hk:0<k): dP ⟨t.name,t.ins,t.outs.take k,t.aM,t.agg,[]⟩=true:=by
 obtain⟨f1,f2,f3,f4,f5⟩:=jB h.frame;obtain⟨g1,g2,_⟩:=gH f2;obtain⟨k1,k2,_⟩:=gH f3;obtain⟨k6,_⟩:=mQ k1
 have hf:je ⟨t.name,t.ins,t.outs.take k,t.aM,t.agg,[]⟩=⟨t.name,t.ins,t.outs.take k,t.aM,t.agg,[]⟩:=by
  unfold je;rw[if_neg (by dsimp only;rw[List.length_take];omega)]
 refine Av (fun e=>by rw[show t.ins=[] from e]at g2;simp at g2) ?_;rw[hf];have hfr:ic ⟨t.name,t.ins,t.outs.take k,t.aM,t.agg,[]⟩=0:=Fv f1 f2 (Kj f3 hk) (Pc f4 _ _ _ hk) (bR _);refine⟨hfr,G5 hfr rfl,?_⟩;have l1:=h.len;have l2:=G6 (o:=true) k6 k;have l4:=oc (k:=t.rules.length) (by omega);have l5:=oc (k:=0) (by omega);unfold x4 at l1 ⊢;dsimp only;simp only[aA,List.length_nil,fq]at l1 ⊢;omega
def Vp{t:Table}(h:qQ t)(k:Nat): dP ⟨t.name,t.ins,t.outs,t.aM,t.agg,t.rules.take k⟩=true:=by
 obtain⟨f1,f2,f3,f4,f5⟩:=jB h.frame;obtain⟨g1,g2,_⟩:=gH f2;obtain⟨k1,k2,_⟩:=gH f3;obtain⟨u,hu⟩:∃ u:Table,(⟨t.name,t.ins,t.outs,t.aM,t.agg,t.rules.take k⟩:Table)=u:=⟨_,rfl⟩
 have hf:je ⟨t.name,t.ins,t.outs,t.aM,t.agg,t.rules.take k⟩=⟨t.name,t.ins,t.outs,t.aM,t.agg,t.rules.take k⟩:=by
  unfold je;rw[if_neg (by dsimp only;omega)]
 refine Av (fun e=>by rw[show t.ins=[] from e]at g2;simp at g2) ?_;rw[hf];have hfr:ic ⟨t.name,t.ins,t.outs,t.aM,t.agg,t.rules.take k⟩=0:=Fv f1 f2 f3 f4 (by simp;omega);refine⟨hfr,?_,?_⟩
 ·have hc:=h.clean;have h0:(ff t).2.2.2=0:=by rw[hc]
  obtain⟨c1,c2,c3⟩:=qN h0;obtain⟨_,m2,m3⟩:=pX c1;have hlen:(eG t).1.lines.length=t.rules.length:=by rw[m3];exact nR _ _
  have qb:t.rules=mM t t.rules.length:=by
   have:=congrArg (fun q=>q.1.rules) (c3.symm.trans hc);dsimp only at this;rw[hlen]at this;exact this.symm
  have YR:∀ j,j<(t.rules.take k).length->jm ⟨t.name,t.ins,t.outs,t.aM,t.agg,t.rules.take k⟩ j=jm t j:=fun j hj=>by
   show kY t ((t.rules.take k).getD j default)=kY t (t.rules.getD j default);rw[CO (by simp at hj;omega)]
  have hmk:eG ⟨t.name,t.ins,t.outs,t.aM,t.agg,t.rules.take k⟩=(⟨⟨t.name,t.ins,t.outs,t.aM,t.agg,t.rules.take k⟩,nw ⟨t.name,t.ins,t.outs,t.aM,t.agg,t.rules.take k⟩ (t.rules.take k).length⟩,0,0,0) :=
   Ai hfr (fun j hj=>by rw[YR j hj];exact m2 j (by simp at hj;omega))
  have pC:∀ j,j<(t.rules.take k).length->pW ⟨t.name,t.ins,t.outs,t.aM,t.agg,t.rules.take k⟩ j=pW t j:=fun j hj=>by
   have hj':j<t.rules.length:=by simp at hj;omega
   have a:pW t j=(jm t j).1:=by unfold pW;rw[m3];exact CD _ hj'
   have b:pW ⟨t.name,t.ins,t.outs,t.aM,t.agg,t.rules.take k⟩ j=(jm ⟨t.name,t.ins,t.outs,t.aM,t.agg,t.rules.take k⟩ j).1:=by unfold pW;rw[hmk];exact CD _ hj
   rw[a,b,YR j hj]
  have hrow:∀ j,j<(t.rules.take k).length->l7 ⟨t.name,t.ins,t.outs,t.aM,t.agg,t.rules.take k⟩ j=l7 t j:=fun j hj=>by
   unfold l7;rw[pC j hj]
  have uQ:(eG ⟨t.name,t.ins,t.outs,t.aM,t.agg,t.rules.take k⟩).1.lines.length=(t.rules.take k).length:=by rw[hmk];exact nR _ _
  rw[xY (by rw[hmk]) (fun j hj=>by rw[uQ]at hj;rw[hrow j hj];exact c2 j (by rw[hlen];simp at hj;omega)),uQ]
  have e:mM ⟨t.name,t.ins,t.outs,t.aM,t.agg,t.rules.take k⟩ (t.rules.take k).length=t.rules.take k:=by
   have e1:mM ⟨t.name,t.ins,t.outs,t.aM,t.agg,t.rules.take k⟩ (t.rules.take k).length=mM t (t.rules.take k).length :=
    List.map_congr_left (fun j hj=>congrArg Prod.fst (hrow j (cU.1 hj)))
   rw[e1]
   conv=>rhs;rw[qb]
   unfold mM;rw[<-List.map_take,List.take_range,List.length_take]
  rw[e]
 ·have l1:=h.len;have l4:=oc (k:=t.rules.length) (by omega);have l5:=oc (k:=(t.rules.take k).length) (by simp;omega);have l6:=CQ nx t.rules k;unfold x4 at l1 ⊢;dsimp only;simp only[aA]at l1 ⊢;omega
def jU(a b c:aI): cg [a,b,c]=a++(32::(b++(32::c))):=by unfold cg;rw[join_cons];simp
def vU(a b c d:aI): cg [a,b,c,d]=a++(32::(b++(32::(c++(32::d))))):=by unfold cg;rw[join_cons];simp
def CU(a b:aI): cg [a,b]=a++(32::b):=by unfold cg;rw[join_cons];simp
def IL{p:aI->Prop}{a b c:aI}(h1:p a)(h2:p b)(h3:p c): ∀ z ∈ [a,b,c],p z:=fun z hz=>by
 simp only[List.mem_cons,List.not_mem_nil,or_false]at hz;rcases hz with rfl|rfl|rfl<;>assumption
def XM{k:Int}(h1:1<=k)(h2:k<=3): fy (fun x=>x==lj k) pE=k/\kZ (lj k):=by
 rcases(by omega:k=1\/k=2\/k=3)with rfl|rfl|rfl
 ·exact⟨by decide,by unfold kZ;decide⟩
 ·exact⟨by decide,by unfold kZ;decide⟩
 ·exact⟨by decide,by unfold kZ;decide⟩
def Z5{k:Int}(h1:1<=k)(h2:k<=6): fy (fun x=>x==u_ k) rB=k/\kZ (u_ k):=by
 rcases(by omega:k=1\/k=2\/k=3\/k=4\/k=5\/k=6)with rfl|rfl|rfl|rfl|rfl|rfl;all_goals exact⟨by decide,by unfold kZ;decide⟩
def Z6{k:Int}(h1:0<=k)(h2:k<=4): fy (fun x=>x==ve k) rC=k/\kZ (ve k):=by
 rcases(by omega:k=0\/k=1\/k=2\/k=3\/k=4)with rfl|rfl|rfl|rfl|rfl;all_goals exact⟨by decide,by unfold kZ;decide⟩
def lA: kZ D_/\kZ tW/\kZ zc/\kZ sY/\kZ jJ/\kZ lg/\kZ tX/\kZ kz:=by unfold kZ;decide
def NB{w:aI}(hw:kZ w){c:cR}(hn:eV c.name=true)(k1:1<=c.kind)(k2:c.kind<=3)(ho:∀ v ∈ c.order,bT v=true/\iE v.n): kG (iL (cg [w,c.name,lj c.kind]) c.order)=(c,true):=by
 obtain⟨i1,i2⟩:=XM k1 k2;have hd:decide (0<c.kind)=true:=decide_eq_true (by omega);obtain⟨n,k,o⟩:=c;dsimp only at *;unfold iL;by_cases h:o.length=0
 ·obtain rfl:=List.length_eq_zero_iff.1 h;rw[if_pos h];have e:=rR (n:=3) (by simp) (IL (p:=kZ) hw (w9 hn) i2) rfl;unfold kG;rw[e];dsimp only;rw[if_neg (by simp),if_neg (by simp)];simp only[aT,cq];rw[i1,hd]
 ·rw[if_neg h];have hne:o≠[]:=fun e=>h (by rw[e];rfl);have hrw:=Vm hne (fun v hv=>(ho v hv).1);have e:=Au (n:=3) (by simp) (IL (p:=kZ) hw (w9 hn) i2) rfl hrw;rw[bt,eY];unfold kG;rw[e];dsimp only;rw[if_neg (by simp),if_pos hrw,G4 hne ho];simp only[aT,cq];rw[i1,hd];rfl
def Vq{r:eE}(hc:r.cells≠[])(ho:r.outs≠[])(h1:∀ s ∈ r.cells,Ok 58 s/\Ok 124 s)(h2:∀ s ∈ r.outs,Ok 58 s/\Ok 124 s): kO (jg r)=(r,true):=by
 have b1:=Vi hc (fun s hs=>(h1 s hs).1);have b2:=Vi ho (fun s hs=>(h2 s hs).1)
 have e0:jg r=cg [sY]++(32::(kN r.cells++([32,58,32]++kN r.outs))):=by
  unfold jg;rw[vU];unfold cg;rw[join_cons];simp
 have hne:kN r.cells++([32,58,32]++kN r.outs)≠[]:=by simp
 have e:=Au (l:=[sY]) (n:=1) (by simp) (fun z hz=>by obtain rfl:=bK.1 hz;exact lA.2.2.2.1) rfl hne;rw[<-e0]at e;have pc:=O_ b1 b2;unfold kO;rw[e];dsimp only;rw[pc,if_neg (by simp)];simp only[aT,cq];rw[Kh hc (fun s hs=>(h1 s hs).2),Kh ho (fun s hs=>(h2 s hs).2)]
def Aw{t:Table}(h:qQ t){r:eE}(hr:r ∈ t.rules): r.cells.length=t.ins.length/\r.outs.length=t.outs.length/\(∀ s ∈ r.cells,Ok 58 s/\Ok 124 s)/\ ∀ s ∈ r.outs,Ok 58 s/\Ok 124 s:=by
 have hc:=h.clean;have h0:(ff t).2.2.2=0:=by rw[hc]
 obtain⟨c1,c2,c3⟩:=qN h0;obtain⟨_,m2,m3⟩:=pX c1;have hlen:(eG t).1.lines.length=t.rules.length:=by rw[m3];exact nR _ _
 have qb:t.rules=mM t t.rules.length:=by
  have:=congrArg (fun q=>q.1.rules) (c3.symm.trans hc);dsimp only at this;rw[hlen]at this;exact this.symm
 rw[qb]at hr;obtain⟨j,hj,rfl⟩:=cC.1 hr;have hj:=cU.1 hj;have hz:=c2 j (by omega);have pC:pW t j=(jm t j).1:=by unfold pW;rw[m3];exact CD _ hj
 obtain⟨l1,l2,_,_,l5⟩:=GX (m2 j hj)
 have hl:(jm t j).1=⟨me t (t.rules.getD j default) (t.rules.getD j default).cells.length,qj t (t.rules.getD j default) (t.rules.getD j default).outs.length⟩:=by
  unfold jm;rw[l5]
 unfold l7 at hz ⊢;rw[GS];obtain⟨z1,z2⟩:=U0 hz;rw[pC,hl]at z1 z2 ⊢;dsimp only at z1 z2 ⊢;rw[uO]at z1;rw[Ah]at z2;rw[uO,Ah];refine⟨by rw[Ak];exact l1,by rw[Cx];exact l2,fun s hs=>?_,fun s hs=>?_⟩
 ·obtain⟨m,hm,rfl⟩:=cC.1 hs;have:=z1 m (cU.1 hm);exact⟨Qn (.inl rfl) this,Qn (.inr rfl) this⟩
 ·obtain⟨m,hm,rfl⟩:=cC.1 hs;have:=z2 m (cU.1 hm)
  have key:∀ x:Expr,(oT x).2=0->Ok 58 (oT x).1/\Ok 124 (oT x).1:=fun x hx=>by
   have hr:c8 x=true:=by
    cases hq:c8 x with
    | true=>rfl
    | false=>unfold oT at hx;rw[if_pos hq]at hx;exact absurd hx (by decide)
   have e:(oT x).1=dJ x:=by
    unfold oT at hx ⊢;rw[if_neg (by rw[hr];simp)]at hx ⊢;split
    ·rename_i h1;rw[if_pos h1]at hx;exact absurd hx (by decide)
    rename_i h1;rw[if_neg h1]at hx;split
    ·rename_i h2;rw[if_pos h2]at hx;exact absurd hx (by decide)
    ·rfl
   rw[e];exact⟨IK (.inl rfl) x hr,IK (.inr rfl) x hr⟩
  exact key _ this
def nT{a b:aI}(ha:kZ a): (cH 32 (a++(32::b))).1=a:=by rw[ze b ha]
def XO{c:dX}(ok:iJ c)(h:dY c=0)(h1:c.kind≠1): ∃ w,dR c=[w]/\l8 w=(c,true)/\ur.isPrefixOf w=false:=by
 obtain⟨_,k1,k9,hp,hn,hf,hm,h6,hr⟩:=qO h;obtain⟨p1,p2,p3,p4,p5⟩:=Ap hp;obtain⟨r1,r2,r3,r4,r5,r6,r7⟩:=ok;obtain⟨k,t,n,v,row,f,m⟩:=c;dsimp only at *;have ht:t=iH:=p1.resolve_left h1;subst ht;have hr:∀ x ∈ row,bT x=true/\iE x.n:=fun x hx=>⟨aW.1 hr x hx,(r5.2 x hx).1⟩;have adr:k=2\/k=3\/k=5\/k=6\/k=4\/k=7\/k=8\/k=9:=by omega
 rcases adr with rfl|rfl|rfl|rfl|rfl|rfl|rfl|rfl
 ·
  obtain⟨hname,v0',v1'⟩:=hn (.inl rfl);have oQ:f=0:=p4.resolve_left (by omega);have G7:m=0:=p5.resolve_left (by omega);subst oQ;subst G7;refine⟨iL (cg [jJ,n,Lib.itoa v]) row,rfl,?_,?_⟩
  ·have hnb:=IL (p:=kZ) lA.2.2.2.2.1 (w9 hname) (w8 v);unfold iL;by_cases hrow:row.length=0
   ·obtain rfl:=List.length_eq_zero_iff.1 hrow;rw[if_pos hrow];have e:=rR (n:=3) (by simp) hnb rfl;have ec:(cH 32 (cg [jJ,n,Lib.itoa v])).1=jJ:=by rw[jU];exact nT lA.2.2.2.2.1
    unfold l8;rw[ec,if_pos rfl];unfold ko;rw[e];dsimp only;rw[if_neg (by simp),if_neg (by simp)];simp only[aT,cq];rw[oa r4];rfl
   ·rw[if_neg hrow,bt,eY];have hne:row≠[]:=fun e=>hrow (by rw[e];rfl);have hrw:=Vm hne (fun v hv=>(hr v hv).1);have e:=Au (n:=3) (by simp) hnb rfl hrw;have ec:(cH 32 (cg [jJ,n,Lib.itoa v]++(32::pF row))).1=jJ:=by rw[jU,bt];exact nT lA.2.2.2.2.1
    unfold l8;rw[ec,if_pos rfl];unfold ko;rw[e];dsimp only;simp only[aT,cq];rw[if_neg (by simp),oa r4,if_pos ⟨rfl,hrw⟩,G4 hne hr];rfl
  ·unfold iL;split<;>(rw[jU];rfl)
 ·
  obtain⟨hname,v0',v1'⟩:=hn (.inr rfl);have oQ:f=0:=p4.resolve_left (by omega);have G7:m=0:=p5.resolve_left (by omega);have Bj:row=[]:=p3.resolve_left (by omega);subst oQ;subst G7;subst Bj;refine⟨cg [lg,n,Lib.itoa v],rfl,?_,by rw[jU];rfl⟩;have hnb:=IL (p:=kZ) lA.2.2.2.2.2.1 (w9 hname) (w8 v);have e:=rR (n:=3) (by simp) hnb rfl;have ec:(cH 32 (cg [lg,n,Lib.itoa v])).1=lg:=by rw[jU];exact nT lA.2.2.2.2.2.1
  unfold l8;rw[ec,if_neg (by decide),if_pos rfl];unfold ko;rw[e];dsimp only;rw[if_neg (by simp),if_neg (by simp)];simp only[aT,cq];rw[oa r4];rfl
 ·
  obtain⟨hname,BR⟩:=p2.resolve_left (by omega);have Bj:row=[]:=p3.resolve_left (by omega);subst hname;subst BR;subst Bj;refine⟨cg [tX,Lib.itoa f,Lib.itoa m],rfl,?_,by rw[jU];rfl⟩;have hnb:=IL (p:=kZ) lA.2.2.2.2.2.2.1 (w8 f) (w8 m);have e:=rR (n:=3) (by simp) hnb rfl;have ec:(cH 32 (cg [tX,Lib.itoa f,Lib.itoa m])).1=tX:=by rw[jU];exact nT lA.2.2.2.2.2.2.1
  unfold l8;rw[ec,if_neg (by decide),if_neg (by decide),if_pos rfl];unfold jK;rw[e];dsimp only;simp only[aT,cq];rw[if_neg (by simp),oa r6,if_pos ⟨rfl,trivial⟩,oa r7];rfl
 ·
  obtain⟨hname,BR⟩:=p2.resolve_left (by omega);have Bj:row=[]:=p3.resolve_left (by omega);have G7:m=0:=p5.resolve_left (by omega);subst hname;subst BR;subst Bj;subst G7;refine⟨cg [kz,Lib.itoa f],rfl,?_,by rw[CU];rfl⟩
  have hnb:∀ z ∈ [kz,Lib.itoa f],kZ z:=fun z hz=>by
   simp only[List.mem_cons,List.not_mem_nil,or_false]at hz;rcases hz with rfl|rfl
   ·exact lA.2.2.2.2.2.2.2
   ·exact w8 f
  have e:=rR (n:=2) (by simp) hnb rfl;have ec:(cH 32 (cg [kz,Lib.itoa f])).1=kz:=by rw[CU];exact nT lA.2.2.2.2.2.2.2
  unfold l8;rw[ec,if_neg (by decide),if_neg (by decide),if_neg (by decide),if_pos rfl];unfold jK;rw[e];dsimp only;simp only[aT,cq];rw[if_neg (by simp),if_neg (by simp),oa r6];rfl
 all_goals
  obtain⟨hname,BR⟩:=p2.resolve_left (by omega);have Bj:row=[]:=p3.resolve_left (by omega);have G7:m=0:=p5.resolve_left (by omega);have oQ:f=0:=p4.resolve_left (by omega);subst hname;subst BR;subst Bj;subst G7;subst oQ;exact⟨_,rfl,rfl,rfl⟩
