/- Part. -/
import Derived.Test.YtcjcnfcedihckaaGreatDoorW32
set_option linter.all false
namespace Go.Proofs.YtcjcnfcedihckaaGreatDoor
open Go.AM
set_option maxRecDepth 4000
abbrev bl(k:Nat): aI:=List.replicate k 32
def RG{x:aI}(h:x≠[])(hd:x.head?≠some 32): ∀ k r,(bl k++(x++r)).dropWhile (· ==(32:UInt8))=x++r:=by
 intro k r
 induction k with
 | zero =>
   cases x with
   | nil=>exact absurd rfl h
   | cons c x =>
     have:c≠32:=fun e=>hd (by rw[e];rfl);show((c::(x++r)).dropWhile _)=_;rw[List.dropWhile_cons_of_neg (by simpa using this)];rfl
 | succ k ih =>
   rw[bl,List.replicate_succ,bD,List.dropWhile_cons_of_pos (by rfl)];exact ih
def RH{y:UInt8}{x:aI}(h:Ok y x)(k m:Nat): oF (bl k++(x++bl m))=x:=by
 unfold oF Lib.trimB Lib.trimLeftB Lib.trimRightB;have e:(bl k++(x++bl m)).reverse=bl m++(x.reverse++bl k):=by simp[bl]
 have h1:x.reverse≠[]:=by simp[h.ne]
 rw[e,RG h1 (by rw[List.head?_reverse];exact h.lt) m (bl k)];have e2:(x.reverse++bl k).reverse=bl k++(x++[]):=by simp[bl]
 rw[e2,RG h.ne h.hd k []];simp
def Z1{y:UInt8}(hy:y≠32)(k:Nat): Qt y (bl k):=Qt.plain fun c hc=>by
 obtain rfl:=(List.mem_replicate.1 hc).2;exact⟨Ne.symm hy,by decide⟩
def A7{y:UInt8}(hy:y≠32)(k m:Nat): ∀(l:List aI) (x:aI) (j:Nat),(∀ z ∈ x::l,Ok y z)->eD y false (bl j) (x++l.flatMap fun z=>bl k++(y::(bl m++z)))=x::l:=by
 intro l
 induction l with
 | nil =>
   intro x j h;have hx:=h x (by simp);rw[fG,hx.q];have:=RH hx j 0;simp only[bl,List.replicate_zero,bY]at this;rw[eD,this]
 | cons z l ih =>
   intro x j h;have hx:=h x (by simp);rw[dw,hx.q,bx,Z1 hy k,bD,Wz,bx (bl j),RH hx,bx,Z1 hy m,cS];rw[ih z m (fun w hw=>h w (bI _ hw))]
def join_cons(x:aI)(l:List aI)(sep:aI): Lib.join (x::l) sep=x++l.flatMap fun z=>sep++z:=by
 unfold Lib.join
 induction l generalizing x with
 | nil=>simp[List.intercalate]
 | cons u r ih=>rw[List.intercalate_cons_cons,ih u,dw,bx,bx]
def HY{l:List ez}(hl:l≠[])(h:∀ v ∈ l,bZ v=true): fO (lW l) 44=l.map dO:=by
 obtain⟨v,r,rfl⟩:∃ v r,l=v::r:=by
  cases l with
  | nil=>exact absurd rfl hl
  | cons v r=>exact⟨v,r,rfl⟩
 unfold fO lW;rw[aU,join_cons]
 exact A7 (y:=44) (by decide) 0 1 (r.map dO) (dO v) 0 (fun z hz=>by
  rcases List.mem_cons.1 hz with rfl|hz
  ·exact Ok.val (.inl rfl) (h v (by simp))
  ·obtain⟨w,hw,rfl⟩:=cy.1 hz;exact Ok.val (.inl rfl) (h w (bI _ hw)))
def Ls{l:List aI}(hl:l≠[])(h:∀ z ∈ l,Ok 124 z): fO (jP l) 124=l:=by
 obtain⟨v,r,rfl⟩:∃ v r,l=v::r:=by
  cases l with
  | nil=>exact absurd rfl hl
  | cons v r=>exact⟨v,r,rfl⟩
 unfold fO jP;rw[join_cons];exact A7 (y:=124) (by decide) 1 1 r v 0 h
def WA{l:List aI}(hl:l≠[])(h:∀ z ∈ l,Ok 58 z): Ok 58 (jP l):=by
 obtain⟨v,r,rfl⟩:∃ v r,l=v::r:=by
  cases l with
  | nil=>exact absurd rfl hl
  | cons v r=>exact⟨v,r,rfl⟩
 unfold jP;rw[join_cons]
 have key:∀ (r:List aI) (w:aI),Ok 58 w->(∀ z ∈ r,Ok 58 z)->Ok 58 (w++r.flatMap fun z=>[32,124,32]++z):=by
  intro r
  induction r with
  | nil=>intro w hw _;simpa using hw
  | cons z r ih =>
    intro w hw hz;have:=ih _ (hw.mid (m:=[32,124,32]) (by unfold EZ;decide) (hz z (by simp))) (fun u hu=>hz u (List.mem_cons_of_mem _ hu));simpa using this
 exact key r v (h v (by simp)) (fun z hz=>h z (bI _ hz))
def Qr{a b:aI}(ha:Ok 58 a)(hb:Ok 58 b): fO (a++([32,58,32]++b)) 58=[a,b]:=by
 have:=A7 (y:=58) (by decide) 1 1 [b] a 0 (fun z hz=>by
  simp only[List.mem_cons,List.not_mem_nil,or_false]at hz;rcases hz with rfl|rfl
  ·exact ha
  ·exact hb)
 simpa[fO]using this
def xG{c:UInt8}(r:aI): ∀ {a:aI},(∀ x ∈ a,x≠c)->cD c (a++(c::r))=(a,r,true)
 | [],_=>by rw[cS,cD,if_pos rfl]
 | x :: a, h => by
   rw[bD,cD,if_neg (h x (by simp)),xG r (fun y hy=>h y (by simp[hy]))]
def RI{c:UInt8}: ∀ {a:aI},(∀ x ∈ a,x≠c)->cD c a=(a,[],false)
 | [],_=>rfl
 | x :: a, h => by
   rw[cD,if_neg (h x (by simp)),RI (fun y hy=>h y (by simp[hy]))]
def lF(s:aI): Prop:= ∀ x ∈ s,x≠(32:UInt8)
def YR{s:aI}(h:∀ c ∈ s,pC c=true): lF s:=fun c hc e=>(zJ (y:=44) (.inl rfl) (h c hc)).2.2.2 (by rw[e];rfl)
def xH(n:Int): lF (Lib.itoa n):=fun c hc e=>by
 subst e;have hd:∀ u,∀ c ∈ Lib.decDigits u,ep c=true:=fun u=>(qy u).2.1;unfold Lib.itoa at hc;split at hc
 ·rcases List.mem_cons.1 hc with h|h
  ·exact absurd h (by decide)
  ·exact absurd (hd _ _ h) (by decide)
 ·exact absurd (hd _ _ hc) (by decide)
def xI{s:aI}(h:fh s=true): lF s:=by
 simp only[fh,aq,decide_eq_true_eq]at h;exact YR (yx h.1.1.1 h.1.1.2).2
def TT: ∀(l:List aI) (x:aI) (n:Nat),(∀ z ∈ x::l,lF z)->l.length<=n->pieces n (bQ (x::l))=x::l:=by
 intro l
 induction l with
 | nil =>
   intro x n h _;have e:bQ [x]=x:=by unfold bQ;rw[join_cons];simp
   rw[e];cases n with
   | zero=>rfl
   | succ n=>rw[pieces,RI (h x (by simp)),if_neg (by simp)]
 | cons z l ih =>
   intro x n h hn;obtain⟨n,rfl⟩:∃ m,n=m+1:=⟨n-1,by simp at hn;omega⟩;have e:bQ (x::z::l)=x++(32::bQ (z::l)):=by unfold bQ;rw[join_cons,join_cons];simp
   rw[e,pieces,xG _ (h x (by simp)),if_pos rfl];dsimp only;rw[ih z n (fun w hw=>h w (bI _ hw)) (by simp at hn;omega)]
def Qs(r:aI): ∀(l:List aI) (x:aI),(∀ z ∈ x::l,lF z)->pieces (l.length+1) (bQ (x::l)++(32::r))=(x::l)++[r]:=by
 intro l
 induction l with
 | nil =>
   intro x h;have e:bQ [x]=x:=by unfold bQ;rw[join_cons];simp
   rw[e,pieces,xG _ (h x (by simp)),if_pos rfl];rfl
 | cons z l ih =>
   intro x h;have e:bQ (x::z::l)=x++(32::bQ (z::l)):=by unfold bQ;rw[join_cons,join_cons];simp
   rw[e,bx,bD,pieces,xG _ (h x (by simp)),if_pos rfl];dsimp only;rw[List.length_cons,ih z (fun w hw=>h w (bI _ hw))];rfl
def sE{l:List aI}{n:Nat}(hl:l≠[])(h:∀ z ∈ l,lF z)(hn:l.length=n): cn (bQ l) n=(l,[],true):=by
 obtain⟨x,r,rfl⟩:∃ v r,l=v::r:=by
  cases l with
  | nil=>exact absurd rfl hl
  | cons v r=>exact⟨v,r,rfl⟩
 have e:=TT r x n h (by simp at hn;omega);unfold cn;rw[e,if_neg (by omega),if_pos hn]
def A8{l:List aI}{n:Nat}(hl:l≠[])(h:∀ z ∈ l,lF z)(hn:l.length=n){r:aI}(hr:r≠[]): cn (bQ l++(32::r)) n=(l,r,true):=by
 obtain⟨x,q,rfl⟩:∃ v r,l=v::r:=by
  cases l with
  | nil=>exact absurd rfl hl
  | cons v r=>exact⟨v,r,rfl⟩
 subst hn;have e:=Qs r q x h;rw[List.length_cons]at *;unfold cn;rw[e,if_neg (by simp),if_neg (by simp)];have e1:((x::q)++[r]).take (q.length+1)=x::q:=by rw[List.take_left' (by simp)]
 have e2:((x::q)++[r]).getD (q.length+1) []=r:=by
  rw[aj,bL (by simp)];simp
 rw[e1,e2,decide_eq_true hr]
def WB: ∀(a b:aI) (acc:Nat),Lib.parseUint10 acc (a++b)=match Lib.parseUint10 acc a with | .ok v=>Lib.parseUint10 v b|x=>x:=by
 intro a
 induction a with
 | nil=>intro b acc;rfl
 | cons c a ih =>
   intro b acc;rw[bD,Lib.parseUint10,Lib.parseUint10];split
   ·split
    ·rfl
    ·split
     ·rfl
     ·exact ih b _
   ·rfl
def Lt(u:Nat): u<=9223372036854775808->Lib.parseUint10 0 (Lib.decDigits u) = .ok u:=by
 induction u using Nat.strongRecOn with
 | _ u ih =>
   intro hu;by_cases h:u<10
   ·rw[lT h,Lib.parseUint10,yy h,if_pos (by omega),if_neg (by omega),if_neg (by omega),Lib.parseUint10]
    congr 1;omega
   ·have hd:u % 10<10:=Nat.mod_lt _ (by omega);rw[gx (by omega),WB,ih (u / 10) (by omega) (by omega)];dsimp only;rw[Lib.parseUint10,yy hd,if_pos (by omega),if_neg (by omega),if_neg (by omega),Lib.parseUint10]
    congr 1;omega
def WC{n:Int}(h:iu n): Lib.atoiAll (Lib.itoa n) = .ok n:=by
 obtain⟨h0,h1⟩:=h;unfold Lib.itoa;split
 ·rename_i hn;have hp:=Lt n.natAbs (by omega);unfold Lib.atoiAll;dsimp only;rw[if_pos (by decide)];unfold Lib.parseMag;rw[if_neg (qy _).1,hp];dsimp only;rw[if_neg (by simp),if_neg (by simp;omega),if_pos (by decide)]
  congr 1;omega
 ·rename_i hn;have hp:=Lt n.toNat (by omega);obtain⟨d1,d2,_,_⟩:=qy n.toNat
  generalize Lib.decDigits n.toNat=s at *;cases s with
  | nil=>exact absurd rfl d1
  | cons c r =>
    have hc:=d2 c (by simp);simp only[ep,aq,decide_eq_true_eq]at hc;unfold Lib.atoiAll;dsimp only;rw[if_neg (by omega)];unfold Lib.parseMag;rw[if_neg (by simp),hp];dsimp only;rw[if_neg (by omega),if_neg (by omega),if_neg (by omega)]
    congr 1;omega
def oH{n:Int}(h:iu n): gk (Lib.itoa n)=(n,true):=by
 unfold gk;rw[WC h];dsimp only;rw[if_pos rfl]
def RJ {v : ez} {s : aI} {T : List Tok} {t : Tok} (hs : bN s = (T, 0, 0)) (hT : T.length = 1 \/ T.length = 2) (ht : T.getD (T.length - 1) default = t)
    (hv:(if t.kind=3 then(⟨2,0,t.s⟩:ez)else if t.kind=2 then⟨1,if T.length=2 then -t.n else t.n,[]⟩else if t.s=pD then⟨3,1,[]⟩else if t.s=mY then⟨3,0,[]⟩else v0)=v) (he:dO v=s):rY s=v/\xD s=true:=by
 have e:rY s=v:=by
  unfold rY;rw[hs];dsimp only;rw[if_neg (by omega),ht];exact hv
 refine⟨e,?_⟩;unfold xD;rw[hs];dsimp only;rw[if_neg (by omega),e,decide_eq_true he]
def WD{T:List Tok}{ks:List TK}(h:T.map tk=ks){i:Nat}(hi:i<ks.length): tk (T.getD i default)=ks.getD i default:=by
 subst h;simp only[bt]at hi;simp[aj,hi]
def TV: aI:=[45,57,50,50,51,51,55,50,48,51,54,56,53,52,55,55,53,56,48,56]
def OO: Lib.itoa (-9223372036854775808)=TV:=by
 have e0:Lib.decDigits 9223372036854775808=Lib.decDigits 922337203685477580++[UInt8.ofNat (48+8)]:=gx (by decide);have e1:Lib.decDigits 922337203685477580=Lib.decDigits 92233720368547758++[UInt8.ofNat (48+0)]:=gx (by decide);have e2:Lib.decDigits 92233720368547758=Lib.decDigits 9223372036854775++[UInt8.ofNat (48+8)]:=gx (by decide);have e3:Lib.decDigits 9223372036854775=Lib.decDigits 922337203685477++[UInt8.ofNat (48+5)]:=gx (by decide);have e4:Lib.decDigits 922337203685477=Lib.decDigits 92233720368547++[UInt8.ofNat (48+7)]:=gx (by decide);have e5:Lib.decDigits 92233720368547=Lib.decDigits 9223372036854++[UInt8.ofNat (48+7)]:=gx (by decide);have e6:Lib.decDigits 9223372036854=Lib.decDigits 922337203685++[UInt8.ofNat (48+4)]:=gx (by decide);have e7:Lib.decDigits 922337203685=Lib.decDigits 92233720368++[UInt8.ofNat (48+5)]:=gx (by decide);have e8:Lib.decDigits 92233720368=Lib.decDigits 9223372036++[UInt8.ofNat (48+8)]:=gx (by decide);have e9:Lib.decDigits 9223372036=Lib.decDigits 922337203++[UInt8.ofNat (48+6)]:=gx (by decide);have e10:Lib.decDigits 922337203=Lib.decDigits 92233720++[UInt8.ofNat (48+3)]:=gx (by decide);have e11:Lib.decDigits 92233720=Lib.decDigits 9223372++[UInt8.ofNat (48+0)]:=gx (by decide);have e12:Lib.decDigits 9223372=Lib.decDigits 922337++[UInt8.ofNat (48+2)]:=gx (by decide);have e13:Lib.decDigits 922337=Lib.decDigits 92233++[UInt8.ofNat (48+7)]:=gx (by decide);have e14:Lib.decDigits 92233=Lib.decDigits 9223++[UInt8.ofNat (48+3)]:=gx (by decide);have e15:Lib.decDigits 9223=Lib.decDigits 922++[UInt8.ofNat (48+3)]:=gx (by decide);have e16:Lib.decDigits 922=Lib.decDigits 92++[UInt8.ofNat (48+2)]:=gx (by decide);have e17:Lib.decDigits 92=Lib.decDigits 9++[UInt8.ofNat (48+2)]:=gx (by decide);have e18:Lib.decDigits 9=[UInt8.ofNat (48+9)]:=lT (by decide);have h:Lib.itoa (-9223372036854775808)=45::Lib.decDigits 9223372036854775808:=rfl;rw[h,e0,e1,e2,e3,e4,e5,e6,e7,e8,e9,e10,e11,e12,e13,e14,e15,e16,e17,e18];rfl
def aa_: xD TV=false:=by decide +kernel
def abb{v:ez}(hr:bZ v=true)(hv:iu v.n)(hn:v.kind≠1\/ -9223372036854775808<v.n): rY (dO v)=v/\xD (dO v)=true:=by
 have hl:=vt v hv.1 hv.2 hr;by_cases h1:v.kind≠1\/0<=v.n
 ·obtain⟨T,hT,hk⟩:=Rz (ac4 hr h1 hv.2) (by omega);have nX:T.length=1:=by rw[<-bt (f:=tk),hk];rfl
  have ht:=WD hk (i:=0) (by simp);refine RJ hT (.inl nX) rfl ?_ rfl;rw[nX];simp only[aV]at ht;simp only[Nat.sub_self];generalize T.getD 0 default=t at ht ⊢;obtain⟨a,b,c,d⟩:=t;obtain⟨vk,vn,vs⟩:=v;unfold tk TC at ht;unfold bZ at hr;dsimp only at *;by_cases k0:vk=0
  ·subst k0;simp at hr ht;obtain⟨rfl,rfl⟩:=hr;obtain⟨rfl,rfl,rfl⟩:=ht;rfl
  by_cases k1:vk=1
  ·subst k1;simp at hr ht;obtain⟨rfl,rfl,rfl⟩:=ht;subst hr;simp
  by_cases k2:vk=2
  ·subst k2;simp at hr ht;obtain⟨rfl,rfl,rfl⟩:=ht;obtain⟨rfl,_⟩:=hr;simp
  by_cases k3:vk=3
  ·subst k3;simp at hr ht;obtain⟨rfl,rfl,rfl⟩:=ht;obtain⟨rfl,rfl|rfl⟩:=hr
   ·rfl
   ·rfl
  ·simp[k0,k1,k2,k3]at hr
 ·have hk:v.kind=1:=Classical.not_not.1 (not_or.1 h1).1;have hneg:v.n<0:=by omega
  obtain⟨vk,vn,vs⟩:=v;dsimp only at *;subst hk;have hs:vs=[]:=by simpa[bZ]using hr
  subst hs
  have e:dO ⟨1,vn,[]⟩=[45]++Lib.itoa (-vn):=by
   unfold dO Lib.itoa;dsimp only;rw[if_pos rfl,if_pos hneg,if_neg (by omega)];have:vn.natAbs=(-vn).toNat:=by omega
   rw[this];rfl
  have hx:Lx Bd ([45]++Lib.itoa (-vn)) [(4,[45],0),(2,[],-vn)]:=(aa4 (m:=[45]) (by decide)).app (Wd (n:= -vn) (by omega) (by omega)) (fun _ _=>trivial);rw[<-e]at hx;obtain⟨T,hT,hk⟩:=Rz hx (by omega);have vy:T.length=2:=by rw[<-bt (f:=tk),hk];rfl
  have ht:=WD hk (i:=1) (by simp);refine RJ hT (.inr vy) rfl ?_ rfl;rw[vy];simp only[aV,cq]at ht;simp only[Nat.reduceSub];generalize T.getD 1 default=t at ht ⊢;obtain⟨a,b,c,d⟩:=t;unfold tk at ht;dsimp only at *;simp only[Prod.mk.injEq]at ht;obtain⟨rfl,rfl,rfl⟩:=ht;rw[if_neg (by decide),if_pos rfl];simp
def OP{v:ez}(hr:bZ v=true)(hv:iu v.n): pg (dO v)=v/\uV (dO v)=true:=by
 by_cases hn:v.kind≠1\/ -9223372036854775808<v.n
 ·obtain⟨h1,h2⟩:=abb hr hv hn;unfold pg uV;rw[h2,if_pos rfl];exact⟨h1,rfl⟩
 ·obtain⟨h0,h1⟩:=hv;have hk:v.kind=1:=Classical.not_not.1 (not_or.1 hn).1;have hm:v.n = -9223372036854775808:=by omega
  obtain⟨vk,vn,vs⟩:=v;dsimp only at *;subst hk;subst hm;have hs:vs=[]:=by simpa[bZ]using hr
  subst hs
  have e:dO ⟨1,-9223372036854775808,[]⟩=TV:=by
   unfold dO;rw[if_pos rfl];exact OO
  have l:gk TV=(-9223372036854775808,true):=by rw[<-OO];exact oH ⟨by decide,by decide⟩
  unfold pg uV rA;rw[e,aa_,l];exact⟨rfl,rfl⟩
def HZ{l:List ez}(hl:l≠[])(h:∀ v ∈ l,bZ v=true/\iu v.n): kO (lW l)=(l,true):=by
 have e:=HY hl (fun v hv=>(h v hv).1)
 have e2:(l.map dO).map pg=l:=by
  rw[List.map_map]
  conv=>rhs;rw[<-List.map_id l]
  exact List.map_congr_left (fun v hv=>(OP (h v hv).1 (h v hv).2).1)
 unfold kO;rw[e,if_pos (by rw[aX];intro s hs;obtain⟨v,hv,rfl⟩:=cy.1 hs;exact(OP (h v hv).1 (h v hv).2).2),e2,decide_eq_true rfl]
def WE{l:List ez}(hl:l≠[])(h:∀ v ∈ l,bZ v=true): lW l≠[]:=fun e=>by
 have k:=HY hl h;rw[e]at k
 obtain⟨v,r,rfl⟩:∃ v r,l=v::r:=by
  cases l with
  | nil=>exact absurd rfl hl
  | cons v r=>exact⟨v,r,rfl⟩
 have:oF []=dO v:=by
  have:=congrArg (fun q=>q.getD 0 []) k;simpa[fO,eD]using this
 exact(Ok.val (y:=44) (.inl rfl) (h v (by simp))).ne (by rw[<-this];rfl)
def YS{α : Type}[Inhabited α]{p : α->Bool}{l:List α}{i:Nat}(h:fI p l=i): i<l.length/\p (l.getD i default)=true/\ ∀ j,j<i->p (l.getD j default)=false:=by
 unfold fI at h;split at h
 ·rename_i k hk;have:k=i:=by omega
  subst this;obtain⟨h1,h2,h3⟩:=List.findIdx?_eq_some_iff_getElem.1 hk;refine⟨h1,by simpa[aj,h1]using h2,fun j hj=>?_⟩;have:=h3 j hj;simpa[aj,(by omega:j<l.length)]using this
 ·omega
def Dq{α : Type}[Inhabited α]{l:List α}{k i:Nat}(h:i<k): (l.take k).getD i default=l.getD i default:=by
 simp[aj,List.getElem?_take,h]
def nq{l:List cV}(h:jq l=0): l.length<=6/\ ∀ k,k<l.length->o9 l k=0:=by
 unfold jq at h;split at h
 ·omega
 rename_i h6;refine⟨by omega,?_⟩;split at h
 ·rename_i j hj;have:=dW hj;simp[h]at this
 ·rename_i hn;intro k hk;have:=dA.1 hn k (by simpa using hk);simpa using this
def yD{l:List cV}{i:Nat}(h:o9 l i=0): fh (l.getD i default).name=true/\tX l (l.getD i default).name=i/\1<=(l.getD i default).kind/\(l.getD i default).kind<=3:=by
 unfold o9 at h;split at h
 ·omega
 ·rename_i h1;split at h
  ·omega
  ·simp only[not_or,Bool.not_eq_false,Classical.not_not]at h1;exact⟨h1.1,h1.2,by omega,by omega⟩
def abd{l:List cV}{i:Nat}(h1:fh (l.getD i default).name=true)(h2:tX l (l.getD i default).name=i)(h3:1<=(l.getD i default).kind)(h4:(l.getD i default).kind<=3): o9 l i=0:=by
 unfold o9;rw[if_neg (fun h=>h.elim (fun h=>by rw[h1]at h;cases h) (fun h=>h h2)),if_neg (by omega)]
def TX{l:List cV}(h:jq l=0)(k:Nat): jq (l.take k)=0:=by
 obtain⟨h6,hz⟩:=nq h;refine K4 (by simp;omega) (fun i hi=>?_);simp only[List.length_take]at hi;obtain⟨a,b,c,d⟩:=yD (hz i (by omega));have e:=Dq (l:=l) (k:=k) (i:=i) (by omega);refine abd (by rw[e];exact a) ?_ (by rw[e];exact c) (by rw[e];exact d);rw[e];unfold tX at b ⊢;obtain⟨b1,b2,b3⟩:=YS b;exact mo (by simp;omega) (fun j hj=>by rw[Dq (by omega)];exact b3 j hj) (by rw[e];exact b2)
def h_{l:List cV}{b:Bool}(h:jO l b=0): jq l=0/\0<l.length/\ ∀ c ∈ l,iT c b=true:=by
 obtain⟨h1,h2⟩:=yq h;refine⟨h1,h2,fun c hc=>?_⟩;unfold jO at h;rw[if_neg (by omega)]at h;split at h
 ·omega
 ·rename_i h3;have h4:=(not_or.1 h3).2;rw[Bool.not_eq_true,gE]at h4;simpa using h4 c hc
def abe{l:List cV}{b:Bool}(h1:jq l=0)(h2:0<l.length)(h3:∀ c ∈ l,iT c b=true): jO l b=0:=by
 unfold jO;rw[if_neg (by omega),if_neg];rintro(h|h)
 ·omega
 ·rw[List.any_eq_true]at h;obtain⟨c,hc,h⟩:=h;rw[h3 c hc]at h;cases h
def Lu{l:List cV}{b:Bool}(h:jO l b=0){k:Nat}(hk:0<k): jO (l.take k) b=0:=by
 obtain⟨h1,h2,h3⟩:=h_ h;exact abe (TX h1 k) (by simp;omega) (fun c hc=>h3 c (dn hc))
def oG(p:Int): List cV:=[⟨[111],1,if p=3 then [⟨1,0,[]⟩]else []⟩]
def WG(p:Int): jO (oG p) (decide (p=3))=0:=by
 unfold oG;by_cases h:p=3
 ·rw[if_pos h,decide_eq_true h];decide
 ·rw[if_neg h,decide_eq_false h];decide
def jv{t:Table}(h:iC t=0): fh t.name=true/\jO t.ins false=0/\jO t.outs (decide (t.aL=3))=0/\jr t=true/\t.rules.length<=24:=by
 unfold iC at h;split at h
 ·omega
 rename_i h1;split at h
 ·omega
 rename_i h2;split at h
 ·omega
 rename_i h3;split at h
 ·omega
 rename_i h4;split at h
 ·omega
 rename_i h5;exact⟨by simpa using h1,by omega,by omega,by simpa using h4,by omega⟩
def Gd{t:Table}(h1:fh t.name=true)(h2:jO t.ins false=0)(h3:jO t.outs (decide (t.aL=3))=0)(h4:jr t=true)(h5:t.rules.length<=24): iC t=0:=by
 unfold iC;rw[if_neg (by rw[h1];simp),if_neg (by omega),if_neg (by omega),if_neg (by rw[h4];simp),if_neg (by omega)]
def pZ{t:Table}(h:jr t=true): 1<=t.aL/\t.aL<=6/\0<=t.agg/\t.agg<=4/\(t.agg=0\/t.aL=5/\t.outs.length=1):=by
 unfold jr at h;split at h
 ·cases h
 split at h
 ·omega
 split at h
 ·cases h
 ·omega
def Qu{t:Table}(h:jr t=true)(n:aI)(i:List cV)(r:List eL): jr ⟨n,i,oG t.aL,t.aL,t.agg,r⟩=true:=by
 obtain⟨a,b,c,d,e⟩:=pZ h;unfold jr;dsimp only;rw[if_neg (by omega)];split
 ·rfl
 rw[if_neg (by simp[oG];omega)];simp[oG]
def Qv{t:Table}(h:jr t=true)(n:aI)(i:List cV)(r:List eL){k:Nat}(hk:0<k): jr ⟨n,i,t.outs.take k,t.aL,t.agg,r⟩=true:=by
 obtain⟨a,b,c,d,e⟩:=pZ h;rcases e with e|⟨_,e⟩
 ·unfold jr;dsimp only;rw[if_neg (by omega),if_pos e]
 ·have:t.outs.take k=t.outs:=bp (by omega);rw[this];exact h
structure rB (t:Table):Prop where
 frame:iC t=0
 clean:fB t=(t,0,0,0)
 len:(yA t).length<=1400
def xJ{t:Table}(h:(j0 t).2=0): rB t:=by
 obtain⟨h1,h2,h3,h4⟩:=Ql (t:=t) (s:=(j0 t).1) (by rw[<-h]);obtain⟨c1,c2,c3⟩:=rz h1;have e:=tK h2;refine⟨(qx c1).1,?_,by rw[<-h3];exact h4⟩;rw[c3]at e ⊢;exact congrArg (fun q=>(q,(0:Int),(0:Int),(0:Int))) e
def WH{t:Table}(h:rB t): (j0 t).2=0:=by
 have:=h.len;unfold j0;rw[h.clean];dsimp only;rw[if_neg (by omega),if_neg (by rw[xy];simp),if_neg (by omega)]
def A9{v:Table}(hi:v.ins≠[])(h:rB (ju v)): ei v=true:=by
 have hi':v.ins.length≠0:=fun e=>hi (List.length_eq_zero_iff.1 e);have hb:=WH h;unfold ei;rw[if_neg hi',h.clean];dsimp only;rw[xy,hb];rfl
def H6{t:Table}(hf:iC t=0)(hr:t.rules=[]): fB t=(t,0,0,0):=by
 have hm:eM t=(⟨t,nP t t.rules.length⟩,0,0,0):=AY hf (fun j hj=>by rw[hr]at hj;exact absurd hj (cG _));have hl:(eM t).1.lines.length=0:=by rw[hm];dsimp only;rw[oe,hr];rfl
 rw[yw (by rw[hm]) (fun j hj=>by omega),hl];obtain⟨a,b,c,d,e,f⟩:=t;dsimp only at hr;subst hr;rfl
def oI{k:Nat}(h:k<=24): (jk k).length=1:=by
 have:∀ k:Fin 25,(jk (k.val:Int)).length=1:=by decide
 exact this ⟨k,by omega⟩
def rZ(n:Int): 1<=(jk n).length:=by
 unfold jk;rw[vM];split
 ·simp
 ·simp
def vA{α : Type}(f : α->aI)(l:List α)(k:Nat): ((l.take k).flatMap f).length<=(l.flatMap f).length:=by
 conv=>rhs;rw[<-List.take_append_drop k l]
 rw[List.flatMap_append,aA];omega
def H7{o:Bool}{l:List cV}(h:l.length<=6)(k:Nat): (lV o (l.take k)).length<=(lV o l).length:=by
 unfold lV;rw[aA,aA,oI (by simp;omega),oI (by omega)];have:=vA (rJ o) l k;omega
def TY{v:ez}(h:1<=v.kind/\v.kind<=3): 2<=(lM v).length:=by
 unfold lM;have h1:=rZ v.kind;rw[aA];split
 ·unfold gZ;rw[List.length_append];have:=rZ v.s.length;omega
 ·rw[if_pos (by omega)];have:=rZ v.n;omega
def T0{p:Int}{l:List cV}(h:jO l (decide (p=3))=0): (lV true (oG p)).length<=(lV true l).length:=by
 obtain⟨h1,h2,h3⟩:=h_ h;obtain⟨h6,hz⟩:=nq h1
 obtain⟨c,r,rfl⟩:∃ c r,l=c::r:=by
  cases l with
  | nil=>simp at h2
  | cons c r=>exact⟨c,r,rfl⟩
 obtain⟨a,_,b1,b2⟩:=yD (hz 0 (by simp));simp only[aV]at a b1 b2;have ho:=h3 c (by simp)
 have hn:c.name≠[]:=by
  simp only[fh,aq,decide_eq_true_eq]at a;exact a.1.1.1
 have hn1:1<=c.name.length:=by
  cases hq:c.name with
  | nil=>exact absurd hq hn
  | cons x y=>simp
 have e1:=rZ c.name.length;have e2:=rZ c.kind;have e3:=oI (k:=(c::r).length) (by omega);unfold lV;rw[dw,aA,aA,aA,e3];unfold rJ gZ oG;simp only[if_true,aA,dw,fG,bY,List.length_singleton,List.length_cons,List.length_nil];have z1:(jk ((0+1:Nat):Int)).length=1:=by decide
 have z2:(jk (1:Int)).length=1:=by decide
 simp only[z1,z2];by_cases hp:p=3
 ·rw[if_pos hp];rw[decide_eq_true hp]at ho;unfold iT at ho;simp only[if_true,aq,decide_eq_true_eq,aX]at ho;obtain⟨o1,o2,o3⟩:=ho
  obtain⟨v,q,hv⟩:∃ v q,c.order=v::q:=by
   cases hq:c.order with
   | nil=>rw[hq]at o2;simp at o2
   | cons x y=>exact⟨x,y,rfl⟩
  have hk:=o1 0 (by simp;omega);unfold pV at hk;simp only[aq,decide_eq_true_eq]at hk;rw[hv]at hk;simp only[aV]at hk;have h2:=TY (v:=v) (by omega);have e4:=rZ c.order.length;have z3:(rV [⟨1,0,[]⟩]).length=3:=by decide
  have z4:3<=(rV c.order).length:=by
   unfold rV;rw[aA]
   conv=>rhs;rw[hv]
   rw[dw,aA];rw[hv]at e4;omega
  rw[z3];omega
 ·rw[if_neg hp];have z3:(rV []).length=1:=by decide
  have z4:1<=(rV c.order).length:=by
   unfold rV;rw[aA];have:=rZ c.order.length;omega
  rw[z3];omega
def abf{t:Table}(h:rB t){k:Nat}(hk:0<k): ei ⟨t.name,t.ins.take k,[],t.aL,t.agg,[]⟩=true:=by
 obtain⟨f1,f2,f3,f4,f5⟩:=jv h.frame;obtain⟨g1,g2,_⟩:=h_ f2;obtain⟨g6,_⟩:=nq g1;have hf:ju ⟨t.name,t.ins.take k,[],t.aL,t.agg,[]⟩=⟨t.name,t.ins.take k,oG t.aL,t.aL,t.agg,[]⟩:=rfl;refine A9 (fun e=>?_) ?_
 ·have:(t.ins.take k).length=0:=by rw[show t.ins.take k=[] from e];rfl
  simp at this;rcases this with h|h
  ·omega
  ·rw[h]at g2;simp at g2
 rw[hf];have hfr:iC ⟨t.name,t.ins.take k,oG t.aL,t.aL,t.agg,[]⟩=0:=Gd f1 (Lu f2 hk) (WG t.aL) (Qu f4 _ _ _) (bJ _);refine⟨hfr,H6 hfr rfl,?_⟩;have l1:=h.len;have l2:=H7 (o:=false) g6 k;have l3:=T0 f3;have l4:=oI (k:=t.rules.length) (by omega);have l5:=oI (k:=0) (by omega);unfold yA at l1 ⊢;dsimp only;simp only[aA,List.length_nil,fG]at l1 ⊢;omega
def YT{t:Table}(h:rB t){k:Nat}(hk:0<k): ei ⟨t.name,t.ins,t.outs.take k,t.aL,t.agg,[]⟩=true:=by
 obtain⟨f1,f2,f3,f4,f5⟩:=jv h.frame;obtain⟨g1,g2,_⟩:=h_ f2;obtain⟨k1,k2,_⟩:=h_ f3;obtain⟨k6,_⟩:=nq k1
 have hf:ju ⟨t.name,t.ins,t.outs.take k,t.aL,t.agg,[]⟩=⟨t.name,t.ins,t.outs.take k,t.aL,t.agg,[]⟩:=by
  unfold ju;rw[if_neg (by dsimp only;rw[List.length_take];omega)]
 refine A9 (fun e=>by rw[show t.ins=[] from e]at g2;simp at g2) ?_;rw[hf];have hfr:iC ⟨t.name,t.ins,t.outs.take k,t.aL,t.agg,[]⟩=0:=Gd f1 f2 (Lu f3 hk) (Qv f4 _ _ _ hk) (bJ _);refine⟨hfr,H6 hfr rfl,?_⟩;have l1:=h.len;have l2:=H7 (o:=true) k6 k;have l4:=oI (k:=t.rules.length) (by omega);have l5:=oI (k:=0) (by omega);unfold yA at l1 ⊢;dsimp only;simp only[aA,List.length_nil,fG]at l1 ⊢;omega
def WI{t:Table}(h:rB t)(k:Nat): ei ⟨t.name,t.ins,t.outs,t.aL,t.agg,t.rules.take k⟩=true:=by
 obtain⟨f1,f2,f3,f4,f5⟩:=jv h.frame;obtain⟨g1,g2,_⟩:=h_ f2;obtain⟨k1,k2,_⟩:=h_ f3;obtain⟨u,hu⟩:∃ u:Table,(⟨t.name,t.ins,t.outs,t.aL,t.agg,t.rules.take k⟩:Table)=u:=⟨_,rfl⟩
 have hf:ju ⟨t.name,t.ins,t.outs,t.aL,t.agg,t.rules.take k⟩=⟨t.name,t.ins,t.outs,t.aL,t.agg,t.rules.take k⟩:=by
  unfold ju;rw[if_neg (by dsimp only;omega)]
 refine A9 (fun e=>by rw[show t.ins=[] from e]at g2;simp at g2) ?_;rw[hf];have hfr:iC ⟨t.name,t.ins,t.outs,t.aL,t.agg,t.rules.take k⟩=0:=Gd f1 f2 f3 f4 (by simp;omega);refine⟨hfr,?_,?_⟩
 ·have hc:=h.clean;have h0:(fB t).2.2.2=0:=by rw[hc]
  obtain⟨c1,c2,c3⟩:=rz h0;obtain⟨_,m2,m3⟩:=qx c1;have hlen:(eM t).1.lines.length=t.rules.length:=by rw[m3];exact oe _ _
  have qG:t.rules=ni t t.rules.length:=by
   have:=congrArg (fun q=>q.1.rules) (c3.symm.trans hc);dsimp only at this;rw[hlen]at this;exact this.symm
  have Z2:∀ j,j<(t.rules.take k).length->jE ⟨t.name,t.ins,t.outs,t.aL,t.agg,t.rules.take k⟩ j=jE t j:=fun j hj=>by
   show lE t ((t.rules.take k).getD j default)=lE t (t.rules.getD j default);rw[Dq (by simp at hj;omega)]
  have hmk:eM ⟨t.name,t.ins,t.outs,t.aL,t.agg,t.rules.take k⟩=(⟨⟨t.name,t.ins,t.outs,t.aL,t.agg,t.rules.take k⟩,nP ⟨t.name,t.ins,t.outs,t.aL,t.agg,t.rules.take k⟩ (t.rules.take k).length⟩,0,0,0) :=
   AY hfr (fun j hj=>by rw[Z2 j hj];exact m2 j (by simp at hj;omega))
  have kZ:∀ j,j<(t.rules.take k).length->qw ⟨t.name,t.ins,t.outs,t.aL,t.agg,t.rules.take k⟩ j=qw t j:=fun j hj=>by
   have hj':j<t.rules.length:=by simp at hj;omega
   have a:qw t j=(jE t j).1:=by unfold qw;rw[m3];exact Dh _ hj'
   have b:qw ⟨t.name,t.ins,t.outs,t.aL,t.agg,t.rules.take k⟩ j=(jE ⟨t.name,t.ins,t.outs,t.aL,t.agg,t.rules.take k⟩ j).1:=by unfold qw;rw[hmk];exact Dh _ hj
   rw[a,b,Z2 j hj]
  have hrow:∀ j,j<(t.rules.take k).length->mB ⟨t.name,t.ins,t.outs,t.aL,t.agg,t.rules.take k⟩ j=mB t j:=fun j hj=>by
   unfold mB;rw[kZ j hj]
  have vy:(eM ⟨t.name,t.ins,t.outs,t.aL,t.agg,t.rules.take k⟩).1.lines.length=(t.rules.take k).length:=by rw[hmk];exact oe _ _
  rw[yw (by rw[hmk]) (fun j hj=>by rw[vy]at hj;rw[hrow j hj];exact c2 j (by rw[hlen];simp at hj;omega)),vy]
  have e:ni ⟨t.name,t.ins,t.outs,t.aL,t.agg,t.rules.take k⟩ (t.rules.take k).length=t.rules.take k:=by
   have e1:ni ⟨t.name,t.ins,t.outs,t.aL,t.agg,t.rules.take k⟩ (t.rules.take k).length=ni t (t.rules.take k).length :=
    List.map_congr_left (fun j hj=>congrArg Prod.fst (hrow j (cY.1 hj)))
   rw[e1]
   conv=>rhs;rw[qG]
   unfold ni;rw[<-List.map_take,List.take_range,List.length_take]
  rw[e]
 ·have l1:=h.len;have l4:=oI (k:=t.rules.length) (by omega);have l5:=oI (k:=(t.rules.take k).length) (by simp;omega);have l6:=vA nQ t.rules k;unfold yA at l1 ⊢;dsimp only;simp only[aA]at l1 ⊢;omega
def fj(a b c:aI): bQ [a,b,c]=a++(32::(b++(32::c))):=by unfold bQ;rw[join_cons];simp
def nr(a b c d:aI): bQ [a,b,c,d]=a++(32::(b++(32::(c++(32::d))))):=by unfold bQ;rw[join_cons];simp
def yE(a b:aI): bQ [a,b]=a++(32::b):=by unfold bQ;rw[join_cons];simp
def JQ{p:aI->Prop}{a b c:aI}(h1:p a)(h2:p b)(h3:p c): ∀ z ∈ [a,b,c],p z:=fun z hz=>by
 simp only[List.mem_cons,List.not_mem_nil,or_false]at hz;rcases hz with rfl|rfl|rfl<;>assumption
def YU{k:Int}(h1:1<=k)(h2:k<=3): fI (fun x=>x==jA k) pY=k/\lF (jA k):=by
 rcases(by omega:k=1\/k=2\/k=3)with rfl|rfl|rfl
 ·exact⟨by decide,by unfold lF;decide⟩
 ·exact⟨by decide,by unfold lF;decide⟩
 ·exact⟨by decide,by unfold lF;decide⟩
def abg{k:Int}(h1:1<=k)(h2:k<=6): fI (fun x=>x==qP k) rW=k/\lF (qP k):=by
 rcases(by omega:k=1\/k=2\/k=3\/k=4\/k=5\/k=6)with rfl|rfl|rfl|rfl|rfl|rfl;all_goals exact⟨by decide,by unfold lF;decide⟩
def abh{k:Int}(h1:0<=k)(h2:k<=4): fI (fun x=>x==rX k) oE=k/\lF (rX k):=by
 rcases(by omega:k=0\/k=1\/k=2\/k=3\/k=4)with rfl|rfl|rfl|rfl|rfl;all_goals exact⟨by decide,by unfold lF;decide⟩
def lO: lF EW/\lF uE/\lF zI/\lF tM/\lF iW/\lF jX/\lF qO/\lF jz:=by unfold lF;decide
def OQ{w:aI}(hw:lF w){c:cV}(hn:fh c.name=true)(k1:1<=c.kind)(k2:c.kind<=3)(ho:∀ v ∈ c.order,bZ v=true/\iu v.n): kT (fq (bQ [w,c.name,jA c.kind]) c.order)=(c,true):=by
 obtain⟨i1,i2⟩:=YU k1 k2;have hd:decide (0<c.kind)=true:=decide_eq_true (by omega);obtain⟨n,k,o⟩:=c;dsimp only at *;unfold fq;by_cases h:o.length=0
 ·obtain rfl:=List.length_eq_zero_iff.1 h;rw[if_pos h];have e:=sE (n:=3) (by simp) (JQ (p:=lF) hw (xI hn) i2) rfl;unfold kT;rw[e];dsimp only;rw[if_neg (by simp),if_neg (by simp)];simp only[aV,cq];rw[i1,hd]
 ·rw[if_neg h];have hne:o≠[]:=fun e=>h (by rw[e];rfl);have hrw:=WE hne (fun v hv=>(ho v hv).1);have e:=A8 (n:=3) (by simp) (JQ (p:=lF) hw (xI hn) i2) rfl hrw;rw[bx,fx];unfold kT;rw[e];dsimp only;rw[if_neg (by simp),if_pos hrw,HZ hne ho];simp only[aV,cq];rw[i1,hd];rfl
def WJ{r:eL}(hc:r.cells≠[])(ho:r.outs≠[])(h1:∀ s ∈ r.cells,Ok 58 s/\Ok 124 s)(h2:∀ s ∈ r.outs,Ok 58 s/\Ok 124 s): ld (eW r)=(r,true):=by
 have b1:=WA hc (fun s hs=>(h1 s hs).1);have b2:=WA ho (fun s hs=>(h2 s hs).1)
 have e0:eW r=bQ [tM]++(32::(jP r.cells++([32,58,32]++jP r.outs))):=by
  unfold eW;rw[nr];unfold bQ;rw[join_cons];simp
 have hne:jP r.cells++([32,58,32]++jP r.outs)≠[]:=by simp
 have e:=A8 (l:=[tM]) (n:=1) (by simp) (fun z hz=>by obtain rfl:=bR.1 hz;exact lO.2.2.2.1) rfl hne;rw[<-e0]at e;have pc:=Qr b1 b2;unfold ld;rw[e];dsimp only;rw[pc,if_neg (by simp)];simp only[aV,cq];rw[Ls hc (fun s hs=>(h1 s hs).2),Ls ho (fun s hs=>(h2 s hs).2)]
def A_{t:Table}(h:rB t){r:eL}(hr:r ∈ t.rules): r.cells.length=t.ins.length/\r.outs.length=t.outs.length/\(∀ s ∈ r.cells,Ok 58 s/\Ok 124 s)/\ ∀ s ∈ r.outs,Ok 58 s/\Ok 124 s:=by
 have hc:=h.clean;have h0:(fB t).2.2.2=0:=by rw[hc]
 obtain⟨c1,c2,c3⟩:=rz h0;obtain⟨_,m2,m3⟩:=qx c1;have hlen:(eM t).1.lines.length=t.rules.length:=by rw[m3];exact oe _ _
 have qG:t.rules=ni t t.rules.length:=by
  have:=congrArg (fun q=>q.1.rules) (c3.symm.trans hc);dsimp only at this;rw[hlen]at this;exact this.symm
 rw[qG]at hr;obtain⟨j,hj,rfl⟩:=cy.1 hr;have hj:=cY.1 hj;have hz:=c2 j (by omega);have kZ:qw t j=(jE t j).1:=by unfold qw;rw[m3];exact Dh _ hj
 obtain⟨l1,l2,_,_,l5⟩:=HQ (m2 j hj)
 have hl:(jE t j).1=⟨mD t (t.rules.getD j default) (t.rules.getD j default).cells.length,qM t (t.rules.getD j default) (t.rules.getD j default).outs.length⟩:=by
  unfold jE;rw[l5]
 unfold mB at hz ⊢;rw[HM];obtain⟨z1,z2⟩:=Wg hz;rw[kZ,hl]at z1 z2 ⊢;dsimp only at z1 z2 ⊢;rw[vv]at z1;rw[AW]at z2;rw[vv,AW];refine⟨by rw[A0];exact l1,by rw[Dc];exact l2,fun s hs=>?_,fun s hs=>?_⟩
 ·obtain⟨m,hm,rfl⟩:=cy.1 hs;have:=z1 m (cY.1 hm);exact⟨RF (.inl rfl) this,RF (.inr rfl) this⟩
 ·obtain⟨m,hm,rfl⟩:=cy.1 hs;have:=z2 m (cY.1 hm)
  have key:∀ x:Expr,(pE x).2=0->Ok 58 (pE x).1/\Ok 124 (pE x).1:=fun x hx=>by
   have hr:di x=true:=by
    cases hq:di x with
    | true=>rfl
    | false=>unfold pE at hx;rw[if_pos hq]at hx;exact absurd hx (by decide)
   have e:(pE x).1=dN x:=by
    unfold pE at hx ⊢;rw[if_neg (by rw[hr];simp)]at hx ⊢;split
    ·rename_i h1;rw[if_pos h1]at hx;exact absurd hx (by decide)
    rename_i h1;rw[if_neg h1]at hx;split
    ·rename_i h2;rw[if_pos h2]at hx;exact absurd hx (by decide)
    ·rfl
   rw[e];exact⟨JO (.inl rfl) x hr,JO (.inr rfl) x hr⟩
  exact key _ this
def og{a b:aI}(ha:lF a): (cD 32 (a++(32::b))).1=a:=by rw[xG b ha]
def YV{c:ef}(ok:g_ c)(h:dX c=0)(h1:c.kind≠1): ∃ w,cC c=[w]/\lJ w=(c,true)/\tN.isPrefixOf w=false:=by
 obtain⟨_,k1,k9,hp,hn,hf,hm,h6,hr⟩:=mc h;obtain⟨p1,p2,p3,p4,p5⟩:=A4 hp;obtain⟨r1,r2,r3,r4,r5,r6,r7⟩:=ok;obtain⟨k,t,n,v,row,f,m⟩:=c;dsimp only at *;have ht:t=iD:=p1.resolve_left h1;subst ht;have hr:∀ x ∈ row,bZ x=true/\iu x.n:=fun x hx=>⟨aX.1 hr x hx,(r5.2 x hx).1⟩;have aeE:k=2\/k=3\/k=5\/k=6\/k=4\/k=7\/k=8\/k=9:=by omega
 rcases aeE with rfl|rfl|rfl|rfl|rfl|rfl|rfl|rfl
 ·
  obtain⟨hname,v0',v1'⟩:=hn (.inl rfl);have pB:f=0:=p4.resolve_left (by omega);have H8:m=0:=p5.resolve_left (by omega);subst pB;subst H8;refine⟨fq (bQ [iW,n,Lib.itoa v]) row,rfl,?_,?_⟩
  ·have hnb:=JQ (p:=lF) lO.2.2.2.2.1 (xI hname) (xH v);unfold fq;by_cases hrow:row.length=0
   ·obtain rfl:=List.length_eq_zero_iff.1 hrow;rw[if_pos hrow];have e:=sE (n:=3) (by simp) hnb rfl;have ec:(cD 32 (bQ [iW,n,Lib.itoa v])).1=iW:=by rw[fj];exact og lO.2.2.2.2.1
    unfold lJ;rw[ec,if_pos rfl];unfold kJ;rw[e];dsimp only;rw[if_neg (by simp),if_neg (by simp)];simp only[aV,cq];rw[oH r4];rfl
   ·rw[if_neg hrow,bx,fx];have hne:row≠[]:=fun e=>hrow (by rw[e];rfl);have hrw:=WE hne (fun v hv=>(hr v hv).1);have e:=A8 (n:=3) (by simp) hnb rfl hrw;have ec:(cD 32 (bQ [iW,n,Lib.itoa v]++(32::lW row))).1=iW:=by rw[fj,bx];exact og lO.2.2.2.2.1
    unfold lJ;rw[ec,if_pos rfl];unfold kJ;rw[e];dsimp only;simp only[aV,cq];rw[if_neg (by simp),oH r4,if_pos ⟨rfl,hrw⟩,HZ hne hr];rfl
  ·unfold fq;split<;>(rw[fj];rfl)
 ·
  obtain⟨hname,v0',v1'⟩:=hn (.inr rfl);have pB:f=0:=p4.resolve_left (by omega);have H8:m=0:=p5.resolve_left (by omega);have y6:row=[]:=p3.resolve_left (by omega);subst pB;subst H8;subst y6;refine⟨bQ [jX,n,Lib.itoa v],rfl,?_,by rw[fj];rfl⟩;have hnb:=JQ (p:=lF) lO.2.2.2.2.2.1 (xI hname) (xH v);have e:=sE (n:=3) (by simp) hnb rfl;have ec:(cD 32 (bQ [jX,n,Lib.itoa v])).1=jX:=by rw[fj];exact og lO.2.2.2.2.2.1
  unfold lJ;rw[ec,if_neg (by decide),if_pos rfl];unfold kJ;rw[e];dsimp only;rw[if_neg (by simp),if_neg (by simp)];simp only[aV,cq];rw[oH r4];rfl
 ·
  obtain⟨hname,Cn⟩:=p2.resolve_left (by omega);have y6:row=[]:=p3.resolve_left (by omega);subst hname;subst Cn;subst y6;refine⟨bQ [qO,Lib.itoa f,Lib.itoa m],rfl,?_,by rw[fj];rfl⟩;have hnb:=JQ (p:=lF) lO.2.2.2.2.2.2.1 (xH f) (xH m);have e:=sE (n:=3) (by simp) hnb rfl;have ec:(cD 32 (bQ [qO,Lib.itoa f,Lib.itoa m])).1=qO:=by rw[fj];exact og lO.2.2.2.2.2.2.1
  unfold lJ;rw[ec,if_neg (by decide),if_neg (by decide),if_pos rfl];unfold j3;rw[e];dsimp only;simp only[aV,cq];rw[if_neg (by simp),oH r6,if_pos ⟨rfl,trivial⟩,oH r7];rfl
 ·
  obtain⟨hname,Cn⟩:=p2.resolve_left (by omega);have y6:row=[]:=p3.resolve_left (by omega);have H8:m=0:=p5.resolve_left (by omega);subst hname;subst Cn;subst y6;subst H8;refine⟨bQ [jz,Lib.itoa f],rfl,?_,by rw[yE];rfl⟩
  have hnb:∀ z ∈ [jz,Lib.itoa f],lF z:=fun z hz=>by
   simp only[List.mem_cons,List.not_mem_nil,or_false]at hz;rcases hz with rfl|rfl
   ·exact lO.2.2.2.2.2.2.2
   ·exact xH f
  have e:=sE (n:=2) (by simp) hnb rfl;have ec:(cD 32 (bQ [jz,Lib.itoa f])).1=jz:=by rw[yE];exact og lO.2.2.2.2.2.2.2
  unfold lJ;rw[ec,if_neg (by decide),if_neg (by decide),if_neg (by decide),if_pos rfl];unfold j3;rw[e];dsimp only;simp only[aV,cq];rw[if_neg (by simp),if_neg (by simp),oH r6];rfl
 all_goals
  obtain⟨hname,Cn⟩:=p2.resolve_left (by omega);have y6:row=[]:=p3.resolve_left (by omega);have H8:m=0:=p5.resolve_left (by omega);have pB:f=0:=p4.resolve_left (by omega);subst hname;subst Cn;subst y6;subst H8;subst pB;exact⟨_,rfl,rfl,rfl⟩
