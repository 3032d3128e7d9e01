/- Part. -/
import Derived.Test.YtcjcnfcedihckaaGreatDoorV34
set_option linter.all false
namespace Go.Proofs.YtcjcnfcedihckaaGreatDoor
open Go.AM
set_option maxRecDepth 4000
def Qt(y:UInt8)(s:aG): Prop:= ∀ cur r,eE y false cur (s++r)=eE y false (cur++s) r
def Qt.nil(y:UInt8): Qt y []:=fun cur r=>by simp
def Qt.app{y:UInt8}{a b:aG}(ha:Qt y a)(hb:Qt y b): Qt y (a++b):=fun cur r=>by
 rw[List.append_assoc,ha,hb,List.append_assoc]
def Hy{y c:UInt8}(cur r:aG)(h:c≠y): eE y false cur (c::r)=eE y (decide (c.toNat=34)) (cur++[c]) r:=by
 rw[eE,if_neg h]
def Qt.plain{y:UInt8}: ∀ {s:aG},(∀ c ∈ s,c≠y/\c.toNat≠34)->Qt y s
 | [],_=>Qt.nil y
 | c :: s, h => fun cur r => by
   have h1:=h c (by simp);rw[cF,Hy _ _ h1.1,decide_eq_false h1.2,Qt.plain (fun d hd=>h d (by simp[hd]))];simp
def Wk{y:UInt8}(r:aG): ∀(s cur:aG),eE y true cur (s.flatMap gi++(34::r))=eE y false (cur++(s.flatMap gi++[34])) r:=by
 intro s
 induction s with
 | nil =>
   intro cur;cases r with
   | nil=>simp[eE]
   | cons d r =>
     rw[eZ,dB,dB,eE,if_neg (by decide)];rfl
 | cons c s ih =>
   intro cur;rw[fQ];unfold gi;split
   ·rw[List.append_assoc,cF,cF,dB,eE,if_pos (by decide)];have:=ih (cur++[92,c]);unfold gi at this;rw[this];simp
   ·rename_i h
    have e:∃ d q,s.flatMap gi++(34::r)=d::q:=by
     cases hq:s.flatMap gi++(34::r)with
     | nil=>simp at hq
     | cons d q=>exact⟨d,q,rfl⟩
    obtain⟨d,q,hq⟩:=e;have:=ih (cur++[c]);rw[hq]at this;unfold gi at hq this;rw[List.append_assoc,cF,dB,hq,eE,if_neg (by omega),decide_eq_true (by omega),this];simp
def Qt.quote{y:UInt8}(hy:y.toNat≠34)(s:aG): Qt y (jQ s):=fun cur r=>by
 unfold jQ;rw[cF,List.append_assoc,Hy _ _ (fun e=>hy (by rw[<-e];rfl)),decide_eq_true (by rfl)];rw[List.singleton_append,Wk];simp
structure Ok (y:UInt8) (s:aG):Prop where
 q:Qt y s
 ne:s≠[]
 hd:s.head?≠some 32
 lt:s.getLast?≠some 32
 nl:∀ c ∈ s,c.toNat≠10
def Uu(y:UInt8)(s:aG): Prop:= ∀ c ∈ s,c≠y/\c.toNat≠34/\c.toNat≠10
def Uu.q{y:UInt8}{s:aG}(h:Uu y s): Qt y s:=Qt.plain fun c hc=>⟨(h c hc).1,(h c hc).2.1⟩
def Wm{a b:aG}(h:a≠[]): (a++b).head? = a.head?:=by
 cases a with
 | nil=>exact absurd rfl h
 | cons c a=>rfl
def Fl{a b:aG}(h:b≠[]): (a++b).getLast? = b.getLast?:=by
 rw[List.getLast?_append];cases hb:b.getLast? with
 | none=>exact absurd (List.getLast?_eq_none_iff.1 hb) h
 | some c=>rfl
def Ok.pre{y:UInt8}{m b:aG}(hm:Uu y m)(h:m.head?≠some 32)(hb:Ok y b): Ok y (m++b) :=
 ⟨hm.q.app hb.q, by simp [hb.ne], by
   cases m with
   | nil=>exact hb.hd
   | cons c m => exact h, by rw [Fl hb.ne]; exact hb.lt, fun c hc => by
     rcases List.mem_append.1 hc with h|h
     ·exact(hm c h).2.2
     ·exact hb.nl c h⟩
def Ok.post{y:UInt8}{a m:aG}(ha:Ok y a)(hm:Uu y m)(h:m.getLast?≠some 32): Ok y (a++m) :=
 ⟨ha.q.app hm.q, by simp [ha.ne], by rw [Wm ha.ne]; exact ha.hd, by
   cases hq:m with
   | nil=>rw[List.append_nil];exact ha.lt
   | cons c q => rw [<-hq, Fl (by simp [hq])]; exact h, fun c hc => by
     rcases List.mem_append.1 hc with h|h
     ·exact ha.nl c h
     ·exact(hm c h).2.2⟩
def Ok.plain{y:UInt8}{s:aG}(hm:Uu y s)(hs:s≠[])(Xb:∀ c ∈ s,c.toNat≠32): Ok y s :=
 ⟨hm.q,hs,fun e=>Xb 32 (List.mem_of_head? e) rfl,fun e=>Xb 32 (List.mem_of_getLast? e) rfl,fun c hc=>(hm c hc).2.2⟩
def Fm(y:UInt8): Prop:=y=44\/y=58\/y=124
def Fm.n{y:UInt8}(h:Fm y): y.toNat=44\/y.toNat=58\/y.toNat=124:=by
 rcases h with rfl|rfl|rfl
 ·exact .inl rfl
 ·exact .inr (.inl rfl)
 ·exact .inr (.inr rfl)
def C7{y c:UInt8}(hy:Fm y)(h:lD c=true): c≠y/\c.toNat≠34/\c.toNat≠10/\c.toNat≠32:=by
 have:=hy.n;simp only[lD,kZ,dc,cz,aD,decide_eq_true_eq]at h;refine⟨fun e=>?_,by omega,by omega,by omega⟩;subst e;omega
def Ok.word{y:UInt8}(hy:Fm y){s:aG}(hs:s≠[])(h:∀ c ∈ s,lD c=true): Ok y s :=
 Ok.plain (fun c hc=>let k:=C7 hy (h c hc);⟨k.1,k.2.1,k.2.2.1⟩) hs (fun c hc=>(C7 hy (h c hc)).2.2.2)
def Ok.itoa{y:UInt8}(hy:Fm y)(n:Int): Ok y (Lib.itoa n):=by
 have hn:=hy.n
 have hd:∀ u,∀ c ∈ Lib.decDigits u,lD c=true:=fun u c hc=>by
  have:=(Hh u).2.1 c hc;simp[lD,this]
 unfold Lib.itoa;split
 ·refine Ok.plain (fun c hc=>?_) (by simp) (fun c hc=>?_)
  ·rcases List.mem_cons.1 hc with rfl|h
   ·exact⟨fun e=>by subst e;revert hn;decide,by decide,by decide⟩
   ·have k:=C7 hy (hd _ c h);exact⟨k.1,k.2.1,k.2.2.1⟩
  ·rcases List.mem_cons.1 hc with rfl|h
   ·decide
   ·exact(C7 hy (hd _ c h)).2.2.2
 ·exact Ok.word hy (Hh _).1 (hd _)
def Ok.quote{y:UInt8}(hy:Fm y){s:aG}(h:gg s=true): Ok y (jQ s):=by
 have hn:=hy.n;simp only[gg,aD,decide_eq_true_eq,bq]at h;refine⟨Qt.quote (by omega) s,by simp[jQ],by simp[jQ],?_,fun c hc=>?_⟩
 ·have e:jQ s=(34::s.flatMap gi)++[34]:=by simp[jQ]
  rw[e,Fl (by simp)];decide
 ·simp only[jQ,List.mem_cons,List.mem_append,List.mem_flatMap,List.not_mem_nil,or_false]at hc;rcases hc with rfl|⟨d,hd,hc⟩|rfl
  ·decide
  ·have hp:=h.2 d hd;simp only[jg,aD,decide_eq_true_eq]at hp;unfold gi at hc;split at hc
   ·simp only[List.mem_cons,List.not_mem_nil,or_false]at hc;rcases hc with rfl|rfl
    ·decide
    ·omega
   ·simp only[List.mem_cons,List.not_mem_nil,or_false]at hc;subst hc;omega
  ·decide
def Ok.val{y:UInt8}(hy:Fm y){v:eu}(h:bT v=true): Ok y (eJ v):=by
 unfold eJ;unfold bT at h;by_cases h1:v.kind=1
 ·rw[if_pos h1];exact Ok.itoa hy _
 by_cases h2:v.kind=2
 ·rw[if_neg h1,if_pos h2];rw[if_neg (by omega),if_neg h1,if_pos h2]at h;simp only[aD]at h;exact Ok.quote hy h.2
 rw[if_neg h1,if_neg h2];repeat' split
 all_goals exact Ok.word hy (by decide) (by decide)
end Go.Proofs.YtcjcnfcedihckaaGreatDoor
namespace Go.Proofs.YtcjcnfcedihckaaGreatDoor
open Go.AM
set_option maxRecDepth 4000
def join_cons(x:aG)(l:List aG)(sep:aG): Lib.join (x::l) sep=x++l.flatMap fun z=>sep++z:=by
 unfold Lib.join
 induction l generalizing x with
 | nil=>simp[List.intercalate]
 | cons u r ih=>rw[List.intercalate_cons_cons,ih u,fQ,List.append_assoc,List.append_assoc]
end Go.Proofs.YtcjcnfcedihckaaGreatDoor
namespace Go.Proofs.YtcjcnfcedihckaaGreatDoor
open Go.AM
set_option maxRecDepth 4000
def uV{l:List cL}(h:iy l=0): l.length<=6/\ ∀ k,k<l.length->nV l k=0:=by
 unfold iy at h;split at h
 ·omega
 rename_i h6;refine⟨by omega,?_⟩;split at h
 ·rename_i j hj;have:=eL hj;simp[h]at this
 ·rename_i hn;intro k hk;have:=dy.1 hn k (by simpa using hk);simpa using this
def Kn{l:List cL}{i:Nat}(h:nV l i=0): fc (l.getD i default).name=true/\pZ l (l.getD i default).name=i/\1<=(l.getD i default).kind/\(l.getD i default).kind<=3:=by
 unfold nV at h;split at h
 ·omega
 ·rename_i h1;split at h
  ·omega
  ·simp only[not_or,Bool.not_eq_false,Classical.not_not]at h1;exact⟨h1.1,h1.2,by omega,by omega⟩
def r9{l:List cL}{b:Bool}(h:jk l b=0): iy l=0/\0<l.length/\ ∀ c ∈ l,gO c b=true:=by
 obtain⟨h1,h2⟩:=wZ h;refine⟨h1,h2,fun c hc=>?_⟩;unfold jk at h;rw[if_neg (by omega)]at h;split at h
 ·omega
 ·rename_i h3;have h4:=(not_or.1 h3).2;rw[Bool.not_eq_true,fS]at h4;simpa using h4 c hc
def adS(p:Int): List cL:=[⟨[111],1,if p=3 then [⟨1,0,[]⟩]else []⟩]
def nA{t:Table}(h:iu t=0): fc t.name=true/\jk t.ins false=0/\jk t.outs (decide (t.aZ=3))=0/\jA t=true/\t.rules.length<=24:=by
 unfold iu at h;split at h
 ·omega
 rename_i h1;split at h
 ·omega
 rename_i h2;split at h
 ·omega
 rename_i h3;split at h
 ·omega
 rename_i h4;split at h
 ·omega
 rename_i h5;exact⟨by simpa using h1,by omega,by omega,by simpa using h4,by omega⟩
def Cu{t:Table}(h:jA t=true): 1<=t.aZ/\t.aZ<=6/\0<=t.agg/\t.agg<=4/\(t.agg=0\/t.aZ=5/\t.outs.length=1):=by
 unfold jA at h;split at h
 ·cases h
 split at h
 ·omega
 split at h
 ·cases h
 ·omega
structure Hz (t:Table):Prop where
 frame:iu t=0
 clean:fC t=(t,0,0,0)
 len:(uQ t).length<=1400
def NS{t:Table}(h:(ko t).2=0): Hz t:=by
 obtain⟨h1,h2,h3,h4⟩:=O_ (t:=t) (s:=(ko t).1) (by rw[<-h]);obtain⟨c1,c2,c3⟩:=tA h1;have e:=Ho h2;refine⟨(pz c1).1,?_,by rw[<-h3];exact h4⟩;rw[c3]at e ⊢;exact congrArg (fun q=>(q,(0:Int),(0:Int),(0:Int))) e
def Uv{α : Type}(f : α->aG)(l:List α)(k:Nat): ((l.take k).flatMap f).length<=(l.flatMap f).length:=by
 conv=>rhs;rw[<-List.take_append_drop k l]
 rw[List.flatMap_append,aC];omega
end Go.Proofs.YtcjcnfcedihckaaGreatDoor
namespace Go.Proofs.YtcjcnfcedihckaaGreatDoor
open Go.AM
set_option maxRecDepth 4000
def kV(a b c:aG): cH [a,b,c]=a++(32::(b++(32::c))):=by unfold cH;rw[join_cons];simp
def zU(a b c d:aG): cH [a,b,c,d]=a++(32::(b++(32::(c++(32::d))))):=by unfold cH;rw[join_cons];simp
def Ko(a b:aG): cH [a,b]=a++(32::b):=by unfold cH;rw[join_cons];simp
end Go.Proofs.YtcjcnfcedihckaaGreatDoor
namespace Go.Proofs.YtcjcnfcedihckaaGreatDoor
open Go.AM
set_option maxRecDepth 4000
def Je(r:qc): List aG->Option qc
 | []=>some r
 | s::l=>if(Ct r s).2=true then Je (Ct r s).1 l else none
def XE{r:qc}{a b:List aG}: Je r (a++b)=(Je r a).bind fun q=>Je q b:=by
 induction a generalizing r with
 | nil=>rfl
 | cons s a ih =>
   rw[cF,Je,Je];split
   ·exact ih
   ·rfl
def Cv{t:Table}(h:Hz t){c:cL}(hc:c ∈ t.ins): fc c.name=true/\1<=c.kind/\c.kind<=3/\c.order=[]:=by
 obtain⟨_,f2,_⟩:=nA h.frame;obtain⟨h1,h2,h3⟩:=r9 f2;obtain⟨_,hz⟩:=uV h1;obtain⟨i,hi,rfl⟩:=bA hc;have hg:t.ins.getD i default=t.ins[i]:=by simp[aj,hi]
 obtain⟨a,_,b,d⟩:=Kn (hz i hi);rw[hg]at a b d;have ho:=h3 _ hc;unfold gO at ho;simp only[Bool.false_eq_true,if_false,decide_eq_true_eq]at ho;exact⟨a,b,d,List.length_eq_zero_iff.1 ho⟩
def zV{t:Table}(h:Hz t){c:cL}(hc:c ∈ t.outs): fc c.name=true/\1<=c.kind/\c.kind<=3/\ ∀ v ∈ c.order,bT v=true:=by
 obtain⟨_,_,f3,_⟩:=nA h.frame;obtain⟨h1,h2,h3⟩:=r9 f3;obtain⟨_,hz⟩:=uV h1;obtain⟨i,hi,rfl⟩:=bA hc;have hg:t.outs.getD i default=t.outs[i]:=by simp[aj,hi]
 obtain⟨a,_,b,d⟩:=Kn (hz i hi);rw[hg]at a b d;have ho:=h3 _ hc;refine⟨a,b,d,fun v hv=>?_⟩;unfold gO at ho;split at ho
 ·simp only[aD,decide_eq_true_eq,bq]at ho;obtain⟨j,hj,rfl⟩:=bA hv;have:=ho.1 j (dI.2 hj);unfold pJ at this;simp only[aD,decide_eq_true_eq]at this;simpa[aj,hj]using this.1.1
 ·simp only[decide_eq_true_eq]at ho;rw[List.length_eq_zero_iff.1 ho]at hv;cases hv
end Go.Proofs.YtcjcnfcedihckaaGreatDoor
namespace Go.Proofs.YtcjcnfcedihckaaGreatDoor
open Go.AM
set_option maxRecDepth 4000
def xK(s:aG): Prop:= ∀ c ∈ s,c≠(10:UInt8)
def xK.app{a b:aG}(ha:xK a)(hb:xK b): xK (a++b):=fun c hc=>(List.mem_append.1 hc).elim (ha c) (hb c)
def xK.join{l:List aG}{sep:aG}(h:∀ z ∈ l,xK z)(hs:xK sep): xK (Lib.join l sep):=by
 cases l with
 | nil=>intro c hc;simp[Lib.join,List.intercalate]at hc
 | cons x l =>
   rw[join_cons];refine(h x (by simp)).app fun c hc=>?_;obtain⟨z,hz,hc⟩:=List.mem_flatMap.1 hc;exact(hs.app (h z (by simp[hz]))) c hc
def Ok.xK{y:UInt8}{s:aG}(h:Ok y s): xK s:=fun c hc e=>h.nl c hc (by rw[e];rfl)
section
variable {l:List fy} (hl:l.length<=64) (h:∀ c ∈ l,jX c/\fq c=0)
include hl h
end
end Go.Proofs.YtcjcnfcedihckaaGreatDoor
namespace Go.Proofs.YtcjcnfcedihckaaGreatDoor
open Go.AM
set_option maxRecDepth 4000
def HA {P : Program} {f : FuncId} {args : List AV} {r : AV} (hf : Has P f)
    (h : ∀ (g : aM) (w : World) (σ : ae) (vs : Array Value), Rel g w σ -> args.length = vs.size -> (∀ i, i < args.length -> VR g w (args.getD i .undef) (vs.getD i Go.undef)) ->
      Calls P f vs w fun e w'=> ∃ v,e = .returned v/\(∀ g':aM,(∀ b,w.heap.size<=b->b<w'.heap.size->g'.fH b)->VR g' w' r v)/\w'.os=w.os/\w'.tape=w.tape/\w'.output=w.output/\w.heap.size<=w'.heap.size/\ ∀ b,b<w.heap.size->w'.heap[b]? = w.heap[b]?):aH P f args r:=by
 intro σ;refine⟨hf,fun g w vs hR hl hv=>?_⟩;refine(h g w σ vs hR hl hv).mono ?_;rintro e w' ⟨v,rfl,h1,k1,k2,k3,k4,k5⟩;obtain⟨r1,r2⟩:=hR.rf k4 k1 k2 k3 k5;exact⟨.ret r,_,σ,r1,r2,h1 _ (fun b h1 h2=> .inr ⟨h1,h2⟩),rfl,rfl⟩
def NU(s:aG): (⟨s.toArray⟩:ByteArray).size=s.length:=by simp[ByteArray.size]
def Cw(s:aG)(hs:s.length<=2 ^ 62): aH aE 25 [.str s,.str [32]] (.str (iL s)):=by
 refine k8 ⟨_,Tryz.func25,by kernel_rfl,by kernel_rfl⟩ fun g w σ vs hR hl hv=>?_;have h2:=hv 0 (by simp);have h3:=hv 1 (by simp);rw[GX hl];generalize vs.getD 0 Go.undef=v at h2;generalize vs.getD 1 Go.undef=u at h3;simp only[bR,fm]at h2 h3;cases h2;cases h3;refine⟨_,fun g' w'=>VR.GW (iL s),(Tryz.strings_Trim_one ⟨s.toArray⟩ 32 (by decide) w (by rw[NU];omega)).mono ?_⟩;rintro e w' ⟨rfl,rfl|rfl⟩
 ·exact⟨rfl,rfl,rfl,rfl,Nat.le_refl _,fun _ _=>rfl⟩
 ·exact⟨rfl,rfl,rfl,rfl,Nat.le_refl _,fun _ _=>rfl⟩
def Cx(c:UInt8)(s:aG): Int:=if(eP c s).2.2=true then((eP c s).1.length:Int)else -1
def NV(c:UInt8): ∀ s:aG,Lib.indexByte s c=Cx c s:=by
 intro s
 induction s with
 | nil=>rfl
 | cons b s ih =>
   unfold Cx at ih ⊢;rw[Lib.indexByte,eP];by_cases h:b=c
   ·subst h;simp
   ·rw[if_neg h];dsimp only;have hb:(b==c)=false:=by simpa using h
    rw[ih];cases hc:(eP c s).2.2 with
    | true=>simp[hb]
    | false=>simp[hb]
def stringslite_Index(s:aG)(c:UInt8): aH aE 102 [.str s,.str [c]] (I (Cx c s)):=by
 refine k8 ⟨_,Tryz.func102,by kernel_rfl,by kernel_rfl⟩ fun g w σ vs hR hl hv=>?_;have h2:=hv 0 (by simp);have h3:=hv 1 (by simp);rw[GX hl];generalize vs.getD 0 Go.undef=v at h2;generalize vs.getD 1 Go.undef=u at h3;simp only[bR,fm]at h2 h3;cases h2;cases h3;refine⟨_,fun g' w'=>VR.int .i64 (Cx c s),(Tryz.stringslite_Index_one ⟨s.toArray⟩ c w).mono ?_⟩;rintro e w' ⟨rfl,rfl⟩;exact⟨by rw[<-NV],rfl,rfl,rfl,Nat.le_refl _,fun _ _=>rfl⟩
def strings_Index(s:aG)(c:UInt8): aH aE 226 [.str s,.str [c]] (I (Cx c s)):=by
 refine k8 ⟨_,Tryz.func226,by kernel_rfl,by kernel_rfl⟩ fun g w σ vs hR hl hv=>?_;have h2:=hv 0 (by simp);have h3:=hv 1 (by simp);rw[GX hl];generalize vs.getD 0 Go.undef=v at h2;generalize vs.getD 1 Go.undef=u at h3;simp only[bR,fm]at h2 h3;cases h2;cases h3;refine⟨_,fun g' w'=>VR.int .i64 (Cx c s),(Tryz.strings_Index_one ⟨s.toArray⟩ c w).mono ?_⟩;rintro e w' ⟨rfl,rfl⟩;exact⟨by rw[<-NV],rfl,rfl,rfl,Nat.le_refl _,fun _ _=>rfl⟩
abbrev TNE: TypeId:=328
def Sf(s:aG): AV:=match Lib.atoiAll s with
 | .ok n=> .bJ [I n,.ja]
 | .range=> .bJ [I (Lib.atoiSat s),.j6 TNE .undef]
 | _=> .bJ [I 0,.j6 TNE .undef]
def HB{g:aM}{w:World}{a b:AV}{x y:Value}(h1:VR g w a x)(h2:VR g w b y): VR g w (.bJ [a,b]) (.tuple #[x,y]) :=
 .bJ _ _ rfl fun i hi=>by
  match i,hi with
  | 0,_=>exact h1
  | 1,_=>exact h2
def strconv_Atoi(s:aG)(hs:s.length<=2 ^ 40): aH aE 223 [.str s] (Sf s):=by
 refine HA ⟨_,Tryz.func223,by kernel_rfl,by kernel_rfl⟩ fun g w σ vs hR hl hv=>?_;have h2:=hv 0 (by simp);rw[M8 hl];generalize vs.getD 0 Go.undef=v at h2;simp only[bR]at h2;cases h2;have hz:(⟨s.toArray⟩:ByteArray).size<=2 ^ 40:=by rw[NU];exact hs
 have below:∀ w':World,RowKit.Below w.heap.size w w'->w'.os=w.os/\w'.tape=w.tape/\w'.output=w.output/\w.heap.size<=w'.heap.size/\ ∀ b,b<w.heap.size->w'.heap[b]? = w.heap[b]?:=fun w' h=>⟨h.os,h.tape,h.output,h.size,h.block⟩;obtain⟨_,⟨t1,p1,e1⟩,t2,p2,e2⟩:=hR.glob.2;unfold Sf;cases ha:Lib.atoiAll s
 case ok n =>
  refine(Tryz.strconv_Atoi_ok ⟨s.toArray⟩ (by omega) n ha w).mono ?_;rintro e w' ⟨rfl,rfl|⟨t,rfl⟩⟩
  ·exact⟨_,rfl,fun g' _=>HB (.int .i64 n) .ja,rfl,rfl,rfl,Nat.le_refl _,fun _ _=>rfl⟩
  ·exact⟨_,rfl,fun g' _=>HB (.int .i64 n) .ja,below _ (Lib.bytesWorld_below _ _ _)⟩
 case range =>
  refine(Tryz.strconv_Atoi_range_var ⟨s.toArray⟩ (by omega) ha t2 p2 w e2).mono ?_;rintro e w' ⟨k,rfl,_,_,hb⟩;exact⟨_,rfl,fun g' _=>HB (.int .i64 _) (.j6 _ _ _ (.undef _)),below _ hb⟩
 refine(Tryz.strconv_Atoi_syntax_var ⟨s.toArray⟩ (by omega) ha t1 p1 w e1).mono ?_;rintro e w' ⟨k,rfl,_,_,hb⟩;exact⟨_,rfl,fun g' _=>HB (.int .i64 0) (.j6 _ _ _ (.undef _)),below _ hb⟩
def Fo(c:UInt8)(s:aG): ((eP c s).2.2=true->(eP c s).1=s.take (eP c s).1.length/\(eP c s).2.1=s.drop ((eP c s).1.length+1)/\(eP c s).1.length<s.length)/\((eP c s).2.2=false->eP c s=(s,[],false)):=by
 refine⟨fun h=>?_,fun h=>?_⟩
 ·have e:=aas c s h;clear h;generalize (eP c s).1=a at *;generalize (eP c s).2.1=r at *;subst e;exact⟨(List.take_left' rfl).symm,by rw[<-List.drop_drop,List.drop_left' rfl];rfl,by simp⟩
 ·induction s with
  | nil=>rfl
  | cons b s ih =>
    rw[eP]at h ⊢;by_cases hb:b=c
    ·rw[if_pos hb]at h;cases h
    ·rw[if_neg hb]at h ⊢;rw[ih h]
def Fp(t:aG × aG × Bool): AV:= .bJ [.str t.1,.str t.2.1,.bool t.2.2]
def HC(s:aG)(c:UInt8)(hs:s.length<=2 ^ 60): aH aE 59 [.str s,.str [c]] (Fp (eP c s)):=by
 have h1:=stringslite_Index s c;obtain⟨k1,k2⟩:=Fo c s;unfold Cx at h1;generalize eP c s=t at *;obtain⟨a,r,b⟩:=t;dsimp only at *;simp only[Fp];cases b with
 | true =>
   obtain⟨rfl',rfl,hl⟩:=k1 rfl;generalize ha:a.length=n at *;subst rfl';rw[if_pos rfl]at h1;refine aJ mY ?_;intro Q au aA aB;repeat' first|refine aq ?_|refine ak ?_ ?_<;>intro hw<;>try omega|fail
   all_goals first|exact bh|(refine bG ?_;exact jq)|skip
 | false =>
   obtain⟨rfl,rfl,_⟩:a=s/\r=[]/\True:=by have:=k2 rfl;injection this with e1 e2;injection e2 with e2 _;exact⟨e1,e2,trivial⟩
   rw[if_neg (by decide)]at h1;refine aJ mY ?_;intro Q au aA aB;repeat' first|refine aq ?_|refine ak ?_ ?_<;>intro hw<;>try omega|fail
   all_goals first|exact bh|(refine bG ?_;exact jq)|skip
def tC(s:aG)(c:UInt8)(hs:s.length<=2 ^ 60): aH aE 27 [.str s,.str [c]] (Fp (eP c s)):=by
 have h1:=HC s c hs;generalize eP c s=t at *;obtain⟨a,r,b⟩:=t;simp only[Fp]at h1 ⊢;refine aJ Ii ?_;intro Q au aA aB;repeat' first|refine aq ?_|refine ak ?_ ?_<;>intro hw<;>try omega|fail
 all_goals first|exact bh|(refine bG ?_;exact jq)|skip
end Go.Proofs.YtcjcnfcedihckaaGreatDoor
namespace Go.Proofs.YtcjcnfcedihckaaGreatDoor
open Go.AM
set_option maxRecDepth 4000
def HD: aH aE 87 [] (bI zS):=by
 refine aJ Bv ?_;intro Q au aA aB;repeat' first|refine aq ?_|refine ak ?_ ?_<;>intro hw<;>try omega|fail
 all_goals exact eT (View.weak _ _ _ (by simp))
def Pm: aH aE 88 [] (bI s6):=by
 refine aJ Ir ?_;intro Q au aA aB;repeat' first|refine aq ?_|refine ak ?_ ?_<;>intro hw<;>try omega|fail
 all_goals exact eT (View.weak _ _ _ (by simp))
def NW: aH aE 89 [] (bI s7):=by
 refine aJ Gh ?_;intro Q au aA aB;repeat' first|refine aq ?_|refine ak ?_ ?_<;>intro hw<;>try omega|fail
 all_goals exact eT (View.weak _ _ _ (by simp))
def So(l:List aG)(v:aG)(hl:l.length<=2 ^ 62): aH aE 108 [bI l,.str v] (I (gN (fun x=>x==v) l)):=by
 simp only[bI];refine aJ xj ?_;intro Q au aA aB;repeat' first|refine aq ?_|refine ak ?_ ?_<;>intro hw<;>try omega|fail
 with_reducible refine bn [4,5,8,9,10,11,12,13,14,15,16,17,18] (fun i:Nat=>[(8,I i)]) (fun _=>[]) (fun i=>i<=l.length/\ ∀ k,k<i->(l.getD k default==v)=false) (fun i=>l.length-i) (0) ?_ ?_ ?_ ?_
 ·simp
 ·rfl
 ·exact at_
 rintro i r ⟨hi,hp⟩;by_cases hin:i<l.length
 ·have h1:=fun hw=>lP (p:=fun x:aG=>x==v) hin hp hw;have h2:=fun hw=>aY (q:=fun k=>(l.getD k default==v)=false) hp (i:=i) hw;obtain⟨x,hx⟩:∃ x,l.getD i default=x:=⟨_,rfl⟩;rw[hx]at h1 h2;repeat' first|simp (disch:=omega) only[go_sem,au,aA,aB,hx]|refine aq ?_|refine ak ?_ ?_<;>intro hw<;>try omega|fail
  all_goals first
   | exact bh
   |(refine aL ?_ rfl;refine congrArg I ?_;rw[h1 (by simp_all)];done)
   | (refine ⟨i + 1, ?_, ?_, by first | rfl | (simp [go_sem]; done), bL, at_⟩ <;> (try dsimp only)
      ·exact⟨by omega,h2 (by rw[beq_eq_false_iff_ne];exact fun e=>hw e.symm)⟩
      ·omega)
   | skip
 ·repeat' first|refine aq ?_|refine ak ?_ ?_<;>intro hw<;>try omega|fail
  refine aL ?_ rfl;refine congrArg I ?_;exact(kT fun k hk=>hp k (by omega)).symm
def xd{s:aG}{a i:Nat}(h:a<=i)(hi:i<s.length): (s.drop a).take (i+1-a)=(s.drop a).take (i-a)++[s.getD i 0]:=by
 have e:i+1-a=(i-a)+1:=by omega
 rw[e,List.take_add_one,List.getElem?_drop];have e2:a+(i-a)=i:=by omega
 rw[e2,aj,aK hi];rfl
def Kq{s:aG}{i:Nat}(hi:i<s.length): s.drop i=s.getD i 0::s.drop (i+1):=by
 rw[ez hi,aj,aK hi];rfl
def Kr {y : UInt8} {s : aG} {a i : Nat} (h : a <= i) (hi : i < s.length) (w : Bool) : eE y w ((s.drop a).take (i - a)) (s.drop i) =
    if w=true then(if(s.getD i 0).toNat=92 then eE y true ((s.drop a).take (i+2-a)) (s.drop (i+2))else eE y (decide ((s.getD i 0).toNat≠34)) ((s.drop a).take (i+1-a)) (s.drop (i+1)))
    else if s.getD i 0=y then iL ((s.drop a).take (i-a))::eE y false ((s.drop (i+1)).take (i+1-(i+1))) (s.drop (i+1))
    else eE y (decide ((s.getD i 0).toNat=34)) ((s.drop a).take (i+1-a)) (s.drop (i+1)):=by
 rw[xd h hi,Kq hi];generalize hc:(s.drop a).take (i-a)=cur;cases w with
 | true =>
   rw[if_pos rfl];by_cases hn:i+1<s.length
   ·have e2 : (s.drop a).take (i + 2 - a) = cur ++ [s.getD i 0, s.getD (i + 1) 0] := by
     rw[show i+2-a=i+1+1-a by omega,xd (by omega) hn,xd h hi,hc];simp
    rw[e2,Kq hn,eE]
   ·have e1:s.drop (i+1)=[]:=iF (by omega);have e3:s.drop (i+2)=[]:=iF (by omega)
    have e2:(s.drop a).take (i+2-a)=cur++[s.getD i 0]:=by
     rw[<-hc,<-xd h hi,aT (by simp;omega),aT (by simp;omega)]
    rw[e1,e2,e3,eE,eE,eE];split<;>rfl
 | false =>
   rw[if_neg (by decide),eE];simp
def Ks{y:UInt8}{s:aG}{a i:Nat}(hi:s.length<=i)(w:Bool): eE y w ((s.drop a).take (i-a)) (s.drop i)=[iL (s.drop a)]:=by
 rw[iF hi,aT (by simp;omega),eE]
def wh(s:aG)(y:UInt8)(hs:s.length<=2 ^ 30): aH aE 12 [.str s,.int .u8 y.toNat] (bI (iZ s y)):=by
 obtain⟨E,hE⟩:∃ E,iZ s y=E:=⟨_,rfl⟩;rw[hE];simp only[bI];refine aJ F7 ?_;intro Q au aA aB;repeat' first|refine aq ?_|refine ak ?_ ?_<;>intro hw<;>try omega|fail
 with_reducible refine bn [5,6,7,8,9,10,11,12,13,14,15,16,17,18,19,20,21,22,23,24,25,26,27,28,29,30,31,32,33,34,35,36,37,38,39,40,41,42,43,44,45,46,47] (fun q:Nat × Nat × Bool × List aG=>[(5,.own E1 0 q.2.2.2.length 0 q.2.2.2.length),(6,I q.2.1),(7,.bool q.2.2.1),(8,I q.1)]) (fun q=>[.vec E1 (q.2.2.2.map bj)]) (fun q=>q.2.1<=q.1/\q.2.1<=s.length/\q.1<=s.length+1/\q.2.2.2.length<=q.1/\E=q.2.2.2++eE y q.2.2.1 ((s.drop q.2.1).take (q.1-q.2.1)) (s.drop q.1)) (fun q=>s.length+1-q.1) ((0,0,false,[])) ?_ ?_ ?_ ?_
 ·refine⟨by simp,by simp,by simp,by simp,?_⟩;rw[<-hE];rfl
 ·rfl
 ·exact at_
 rintro⟨i,a,w,out⟩ r ⟨g1,g2,g3,g4,g5⟩;dsimp only at g1 g2 g3 g4 g5;by_cases hi:i<s.length
 ·have hp:=Kr (y:=y) g1 hi w;rw[hp]at g5;clear hp;have hu:=UInt8.toNat_inj (a:=s.getD i 0) (b:=y);have NX:(s.take i).drop a=(s.drop a).take (i-a):=List.drop_take ..;have ct:=Cw ((s.drop a).take (i-a)) (by simp;omega);obtain⟨cur,sy⟩:∃ cur,(s.drop a).take (i-a)=cur:=⟨_,rfl⟩;rw[sy]at ct g5;rw[sy]at NX;generalize hc:s.getD i 0=c at *;cases w with
  | true =>
    rw[if_pos rfl]at g5;by_cases Uw:c.toNat=92
    ·rw[if_pos Uw]at g5;repeat' first|simp (disch:=omega) only[go_sem,au,aA,aB,hc]|refine aq ?_|refine ak ?_ ?_<;>intro hw<;>try omega|fail
     all_goals first
      | exact bh
      | skip
     refine⟨(i+2,a,true,out),?_,?_,?_,bL,?_⟩
     ·exact⟨by dsimp only;omega,g2,by dsimp only;omega,by dsimp only;omega,g5⟩
     ·dsimp only;omega
     ·first|rfl|(simp[go_sem];done)
     ·exact at_
    ·rw[if_neg Uw]at g5;have Zu:decide (c.toNat≠34) = !((c.toNat:Int)==34):=by rw[aS];simp;omega
     rw[Zu]at g5;repeat' first|simp (disch:=omega) only[go_sem,au,aA,aB,hc]|refine aq ?_|refine ak ?_ ?_<;>intro hw<;>try omega|fail
     all_goals first
      | exact bh
      | skip
     refine⟨(i+1,a,!((c.toNat:Int)==34),out),?_,?_,?_,bL,?_⟩
     ·exact⟨by dsimp only;omega,g2,by dsimp only;omega,by dsimp only;omega,g5⟩
     ·dsimp only;omega
     ·first|rfl|(simp[go_sem];done)
     ·exact at_
  | false =>
    rw[if_neg (by decide)]at g5;by_cases hy:c=y
    ·rw[if_pos hy]at g5;repeat' first|simp (disch:=omega) only[go_sem,au,aA,aB,hc,NX,sy]|refine aq ?_|refine ak ?_ ?_<;>intro hw<;>try omega|fail
     all_goals first
      | exact bh
      | skip
     refine⟨(i+1,i+1,false,out++[iL cur]),?_,?_,?_,bL,?_⟩
     ·exact⟨by dsimp only;omega,by dsimp only;omega,by dsimp only;omega,by simp;omega,by rw[g5];simp⟩
     ·dsimp only;omega
     ·first|rfl|(simp[go_sem,bj];done)
     ·exact at_
    ·rw[if_neg hy]at g5;have hy':¬ c.toNat=y.toNat:=fun e=>hy (hu.1 e);by_cases Qr:c.toNat=34
     ·rw[decide_eq_true Qr]at g5;repeat' first|simp (disch:=omega) only[go_sem,au,aA,aB,hc]|refine aq ?_|refine ak ?_ ?_<;>intro hw<;>try omega|fail
      all_goals first
       | exact bh
       | skip
      refine⟨(i+1,a,true,out),?_,?_,?_,bL,?_⟩
      ·exact⟨by dsimp only;omega,g2,by dsimp only;omega,by dsimp only;omega,g5⟩
      ·dsimp only;omega
      ·first|rfl|(simp[go_sem];done)
      ·exact at_
     ·rw[decide_eq_false Qr]at g5;repeat' first|simp (disch:=omega) only[go_sem,au,aA,aB,hc]|refine aq ?_|refine ak ?_ ?_<;>intro hw<;>try omega|fail
      all_goals first
       | exact bh
       | skip
      refine⟨(i+1,a,false,out),?_,?_,?_,bL,?_⟩
      ·exact⟨by dsimp only;omega,g2,by dsimp only;omega,by dsimp only;omega,g5⟩
      ·dsimp only;omega
      ·first|rfl|(simp[go_sem];done)
      ·exact at_
 ·rw[Ks (by omega)]at g5;have ct:=Cw (s.drop a) (by simp;omega);repeat' first|refine aq ?_|refine ak ?_ ?_<;>intro hw<;>try omega|fail
  all_goals first|exact bh|(refine eT ?_;rw[g5,ek];exact View.vec rfl (by simp) (by simp) (by have h:=pT (out++[iL (s.drop a)]);rw[ek]at h;exact h))|skip
def Sg: ∀(k m:Nat) (s:aG),s.length<=k->s.length<=m->pieces k s=pieces m s:=by
 intro k
 induction k with
 | zero =>
   intro m s h _;obtain rfl:=List.length_eq_zero_iff.1 (by omega:s.length=0);cases m with
   | zero=>rfl
   | succ m=>rfl
 | succ k ih =>
   intro m s h h2;cases m with
   | zero =>
     obtain rfl:=List.length_eq_zero_iff.1 (by omega:s.length=0);rfl
   | succ m =>
     rw[pieces,pieces];split
     ·rename_i hc;have:=((Fo 32 s).1 hc).2;have hl:(eP 32 s).2.1.length+1<=s.length:=by rw[this.1,List.length_drop];omega
      rw[ih m _ (by omega) (by omega)]
     ·rfl
def Sh: ∀(k:Nat) (s:aG),1<=(pieces k s).length/\(pieces k s).length<=k+1:=by
 intro k
 induction k with
 | zero=>intro s;simp[pieces]
 | succ k ih =>
   intro s;rw[pieces];split
   ·have:=ih (eP 32 s).2.1;rw[List.length_cons];omega
   ·simp
def Ux{l:List aG}{N:Nat}{x:aG}(h:l.length<N): (l.map bj++List.replicate (N-l.length) (AV.str [])).set l.length (.str x)=(l++[x]).map bj++List.replicate (N-(l++[x]).length) (AV.str []):=by
 obtain⟨m,hm⟩:∃ m,N-l.length=m+1:=⟨N-l.length-1,by omega⟩;have e:N-(l++[x]).length=m:=by simp;omega
 rw[hm,e,List.replicate_succ,List.set_append_right _ _ (by simp)];simp[bj]
def Uy{α : Type}{a b:List α}{i:Nat}{d : α}(h:i<a.length): (a++b).getD i d=a.getD i d:=by
 simp[aj,aN h]
def NY{xs ys:List AV}{n m:Nat}(hn:n=ys.length)(hm:m=(ys++xs).length)(hp:AV.bX ys=true): View [bx.vec E1 (ys++xs)] (.own E1 0 m 0 n) (.aF false E1 ys):=by
 subst hn;subst hm;exact .own none E1 0 0 ys.length (ys++xs) ys rfl rfl (by simp) (fun i hi=>by rw[cj,Uy hi];exact .refl _ (iW hp i))
def Fq(s:aG)(n:Nat)(hn:1<=n)(Sp:n<=2 ^ 20)(hs:s.length<=2 ^ 40): aH aE 185 [.str s,.str [32],I 0,I n] (bI (pieces (n-1) s)):=by
 obtain⟨k,hk,hk0,hN⟩:∃ k:Nat,pieces (n-1) s=pieces k s/\k+1<=n/\(if(s.length:Int)+1<n then(s.length:Int)+1 else n)=(k:Int)+1:=by
  by_cases h:n<s.length+1
  ·exact⟨n-1,rfl,by omega,by rw[if_neg (by omega)];omega⟩
  ·exact⟨s.length,Sg _ _ _ (by omega) (by omega),by omega,by split<;>omega⟩
 rw[hk];obtain⟨E,hE⟩:∃ E,pieces k s=E:=⟨_,rfl⟩;rw[hE];simp only[bI];refine aJ AB ?_;intro Q au aA aB;have SK:((k:Int)+1).toNat=k+1:=by omega
 have i_:(k:Int)+1-1=k:=by omega
 repeat' first|simp (disch:=omega) only[go_sem,au,aA,aB,hN,SK,i_]|refine aq ?_|refine ak ?_ ?_<;>intro hw<;>try omega|fail
 all_goals first|(exfalso;omega)|(exfalso;simp_all;done)|skip
 with_reducible refine bn [0,10,11,34,35,36,37,38,39,40,41,42,43,44,45,46,47,48,49,50,51,52,53,54,55,56,57] (fun q:List aG × aG=>[(0,.str q.2),(10,I q.1.length)]) (fun q=>[.vec E1 (q.1.map bj++List.replicate (k+1-q.1.length) (.str []))]) (fun q=>q.1.length<=k/\q.2.length<=s.length/\E=q.1++pieces (k-q.1.length) q.2) (fun q=>k-q.1.length) (([],s)) ?_ ?_ ?_ ?_
 ·exact⟨by simp,by simp,by simp[hE]⟩
 ·simp;rfl
 ·exact at_
 rintro⟨l,u⟩ r ⟨g1,g2,g3⟩;dsimp only at g1 g2 g3;have c1:=strings_Index u 32;obtain⟨q1,q2⟩:=Fo 32 u;have vx:=fun x=>Ux (l:=l) (N:=k+1) (x:=x) (by omega);unfold Cx at c1;by_cases hk:l.length<k
 ·obtain⟨m,hm⟩:∃ m,k-l.length=m+1:=⟨k-l.length-1,by omega⟩;rw[hm,pieces]at g3;cases hc:(eP 32 u).2.2 with
  | true =>
    rw[hc,if_pos rfl]at g3 c1;obtain⟨e1,e2,e3⟩:=q1 hc;generalize (eP 32 u).1=w at *;generalize (eP 32 u).2.1=rest at *;generalize w.length=j at *;subst e1;subst e2;repeat' first|simp (disch:=omega) only[go_sem,au,aA,aB,Bool.false_eq_true,if_false,vx]|refine aq ?_|refine ak ?_ ?_<;>intro hw<;>try omega|fail
    all_goals first|(exfalso;omega)|skip
    refine⟨(l++[u.take j],u.drop (j+1)),?_,?_,?_,bL,?_⟩
    ·refine⟨by simp;omega,?_,?_⟩
     ·dsimp only;rw[List.length_drop];omega
     ·dsimp only;rw[g3,show k-(l++[u.take j]).length=m by simp;omega];simp
    ·simp;omega
    ·first|rfl|(simp[go_sem];done)
    ·exact at_
  | false =>
    rw[hc,if_neg (by decide)]at g3 c1;repeat' first|simp (disch:=omega) only[go_sem,au,aA,aB,Bool.false_eq_true,if_false,vx,Option.map_none,cS]|refine aq ?_|refine ak ?_ ?_<;>intro hw<;>try omega|fail
    all_goals first|(exfalso;omega)|skip
    refine eT ?_;rw[g3];exact NY (by simp) (by simp;omega) (pT _)
 ·have hm:k-l.length=0:=by omega
  rw[hm,pieces]at g3;repeat' first|simp (disch:=omega) only[go_sem,au,aA,aB,Bool.false_eq_true,if_false,vx,Option.map_none,cS]|refine aq ?_|refine ak ?_ ?_<;>intro hw<;>try omega|fail
  all_goals first|(exfalso;omega)|skip
  refine eT ?_;rw[g3];exact NY (by simp) (by simp;omega) (pT _)
end Go.Proofs.YtcjcnfcedihckaaGreatDoor
namespace Go.Proofs.YtcjcnfcedihckaaGreatDoor
open Go.AM
set_option maxRecDepth 4000
def qR{l:List aG}{sep:aG}{m:Nat}(h:∀ z ∈ l,z.length<=m): (Lib.join l sep).length<=l.length*(m+sep.length):=by
 cases l with
 | nil=>simp[Lib.join,List.intercalate]
 | cons x l =>
   rw[join_cons,aC];have h1:=h x (by simp)
   have h2:(l.flatMap fun z=>sep++z).length<=l.length*(m+sep.length):=by
    have h':∀ z ∈ l,z.length<=m:=fun z hz=>h z (by simp[hz]);clear h h1
    induction l with
    | nil=>simp
    | cons y l ih =>
      have a:=h' y (by simp);have b:=ih (fun z hz=>h' z (by simp[hz]));rw[fQ,aC,aC,List.length_cons,cV];omega
   rw[List.length_cons,cV];omega
def Qs(l:List eu): Prop:=l.length<=2 ^ 20/\ ∀ v ∈ l,bT v=true/\jv v.n
def smS(l:List aG): Prop:=l.length<=2 ^ 20/\ ∀ s ∈ l,s.length<=2 ^ 17
def zW{l:List eu}(h:Qs l): (nX l).length<=2 ^ 27:=by
 have:=qR (l:=l.map eJ) (sep:=jf) (m:=82) (fun z hz=>by
  obtain⟨v,hv,rfl⟩:=cW.1 hz;exact wW v (h.2 v hv).2.1 (h.2 v hv).2.2 (h.2 v hv).1)
 have h1:=h.1;have hs:jf.length=2:=rfl;rw[bS,hs]at this;unfold nX;omega
def s8{l:List aG}(h:smS l): (lA l).length<=2 ^ 38:=by
 have:=qR (l:=l) (sep:=[32,124,32]) (m:=2 ^ 17) h.2;have h1:=h.1;simp only[List.length_cons,List.length_nil]at this;unfold lA;have h2:l.length*(2 ^ 17+(0+1+1+1))<=2 ^ 20*(2 ^ 17+3):=Nat.mul_le_mul h1 (Nat.le_refl _);omega
def HE(l:List eu)(h:Qs l): aH aE 91 [cU l] (.str (nX l)):=by
 have hl:=h.1;have hj:=strings_Join (l.map eJ) jf (by simp;omega) (by have:=zW h;unfold nX at this;omega);have hE:Lib.join (l.map eJ) jf=nX l:=rfl;rw[hE]at hj;generalize nX l=E at *;simp only[cU];refine aJ KQ ?_;intro Q au aA aB;repeat' first|refine aq ?_|refine ak ?_ ?_<;>intro hw<;>try omega|fail
 with_reducible refine bn [3,5,6,7,10,11,12,13,14,15,16,17,18,19,20,21,22,23] (fun q:Nat × List bx=>[(10,I q.1),(3,.own E1 0 q.1 0 q.1)]) (fun q=> .vec E1 (((l.take q.1).map eJ).map bj)::q.2) (fun q=>q.1<=l.length) (fun q=>l.length-q.1) ((0,[])) ?_ ?_ ?_ ?_
 ·simp
 ·rfl
 ·exact at_
 rintro⟨i,τ⟩ r g1;dsimp only at g1;by_cases hi:i<l.length
 ·have hv:=h.2 _ (aV hi);have ht:=take_succ hi;have jY:(((l.take i).map eJ).map bj).length=i:=by simp;omega
  obtain⟨v,kU⟩:∃ v,l.getD i default=v:=⟨_,rfl⟩;rw[kU]at hv ht;have c:=zI v hv.2.1 hv.2.2 hv.1;have eW:((l.take (i+1)).map eJ).map bj=((l.take i).map eJ).map bj++[.str (eJ v)]:=by rw[ht];simp[bj]
  generalize eJ v=t at *;simp only[eR]at c;repeat' first|simp (disch:=omega) only[go_sem,au,aA,aB,kU,jY]|refine aq ?_|refine d_ c ?_|refine ak ?_ ?_<;>intro hw<;>try omega|fail
  all_goals first|exact bh|skip
  refine⟨(i+1,τ++[.cells [I v.kind,I v.n,.str v.s]]),?_,?_,?_,bL,?_⟩
  ·dsimp only;omega
  ·dsimp only;omega
  ·dsimp only;rw[eW];first|done|rfl|(simp[go_sem];done)
  ·dsimp only;simp (disch:=omega) only[dU,dm,and_true,go_sem,au,aA,aB,Int.natCast_add,Int.cast_ofNat_Int]<;>(try trivial)<;>(try omega)<;>(try (repeat (first|trivial|(refine And.intro ?_ ?_)|(congr 1;omega))))
 ·have ht:l.take i=l:=aT (by omega);simp only[bI,jf]at hj;have kG:(l.map eJ).length=l.length:=by simp
  obtain⟨L,hL⟩:∃ L,l.map eJ=L:=⟨_,rfl⟩;rw[hL]at hj kG;obtain rfl:i=L.length:=by omega
  repeat' first|simp (disch:=omega) only[go_sem,au,aA,aB,ht,hL]|refine aq ?_|refine tN hj ?_|refine ak ?_ ?_<;>intro hw<;>try omega|fail
  all_goals first|exact bh|exact aL rfl rfl|skip
def Ay(s:aG)(l:List eu)(hs:s.length<=2 ^ 30)(h:Qs l): aH aE 43 [.str s,cU l] (.str (jB s l)):=by
 have c:=HE l h;have hl:=zW h;have DR:=h.1;unfold jB;generalize nX l=r at *;simp only[cU]at c ⊢;by_cases h0:l.length=0
 ·rw[if_pos h0];refine aJ vC ?_;intro Q au aA aB;repeat' first|refine aq ?_|refine d_ c ?_|refine ak ?_ ?_<;>intro hw<;>try omega|fail
  all_goals first|exact bh|exact aL rfl rfl|skip
 ·rw[if_neg h0];have a1:=Up (a:=s.length) (b:=[32].length) (by simp;omega);have a2:=Up (a:=(s++[32]).length) (b:=r.length) (by simp;omega);refine aJ vC ?_;intro Q au aA aB;repeat' first|refine aq ?_|refine d_ c ?_|refine ak ?_ ?_<;>intro hw<;>try omega|fail
  all_goals first|exact bh|exact aL rfl rfl|skip
def kp(l:List aG)(h:l.length<=2 ^ 40)(hj:(cH l).length<=2 ^ 40): aH aE 44 [bI l] (.str (cH l)):=by
 have c:=strings_Join l [32] h hj;have hE:Lib.join l [32]=cH l:=rfl;rw[hE]at c;generalize cH l=w at *;simp only[bI]at c ⊢;refine aJ Gb ?_;intro Q au aA aB;repeat' first|refine aq ?_|refine d_ c ?_|refine ak ?_ ?_<;>intro hw<;>try omega|fail
 all_goals first|exact bh|exact aL rfl rfl|skip
