/- Part. -/
import Derived.Test.YtcjcnfcedihckaaGreatDoorW37
set_option linter.all false
set_option maxHeartbeats 8000000
namespace Go.Proofs.YtcjcnfcedihckaaGreatDoor
open Go.AM
set_option maxRecDepth 4000
def VM {S : ae} {k : Nat} {r : gu} {s : aI} {o i u p : AV} {q0 q1 q2 q3 : Nat} {ys : List AV} (hw : (cH 32 s).1 = D_) (hn : r.now = 1 \/ r.now = 2) (hs : s.length <= 2 ^ 16)
    (hk:S[k]? = some (.cells [o,I r.now,.str r.t.name,i,u,I r.t.aM,I r.t.agg,p])) (h0:jC S k r.out o q0 ys) (ht:nj S k r.t i u p q1 q2 q3) (hg:vX r.t) :
    cN aK 60 [.ref k 0,.str s] S fun o' S'=>o' = .ret (.bool ((kG s).2 && dP (mP r s).t && j_ (mP r s).t s))/\ ∃ v' q',S'[k]? = some (.cells [o,I 2,.str r.t.name,v',u,I r.t.aM,I r.t.agg,p])/\jC S' k r.out o q0 ys/\nj S' k (mP r s).t v' u p q' q2 q3:=by
 have c1:=m_ s 32 (by omega);have c2:=Ba s (by omega);have ok:=NL hg hs;have zj:=fun h=>vW ok (by simp[mP]) h;generalize cH 32 s=X at *;obtain⟨w,rest,f⟩:=X;dsimp only at hw;subst hw;simp only[vf]at c1;generalize hD:(mP r s).t=D at *;obtain⟨C,hC⟩:∃ C,kG s=C:=⟨_,rfl⟩;have uT:D = { r.t with ins:=r.t.ins++[C.1] }:=by rw[<-hD,<-hC];rfl
 rw[hC]at c2 ⊢;obtain⟨C,b⟩:=C;dsimp only at c2 uT ⊢;have lt:=ef hk;obtain⟨hi,hu,hp,hd⟩:=ht;have hx:=hi;rcases hx with⟨he,rfl⟩|⟨he,rfl,hq⟩
 ·have hap:∀ d:aY,(S++[d])[k]? = some (.cells [o,I r.now,.str r.t.name,.au,u,I r.t.aM,I r.t.agg,p]):=fun d=>by rw[aC lt];exact hk
  have iQ:∀ d e:aY,(S++[d]++[e])[k]? = some (.cells [o,I r.now,.str r.t.name,.au,u,I r.t.aM,I r.t.agg,p]):=fun d e=>by rw[aC (by simp;omega)];exact hap d
  have iD:∀ d e c:aY,((S++[d]++[e]).set k c)[k]? = some c:=fun d e c=>List.getElem?_set_self (by simp;omega)
  have fin:∀ d c:aY,jC ((S++[d]++[aY.vec EC [bq C]]).set k c) k r.out o q0 ys/\nj ((S++[d]++[aY.vec EC [bq C]]).set k c) k D (.own EC (S.length+1) 1 0 1) u p (S.length+1) q2 q3:=fun d c=>by
   rw[uT];exact ab6 hk h0 ⟨hi,hu,hp,hd⟩ he C (by omega) (by rw[List.getElem?_set_ne (by omega)];simp) NN
  subst uT;have hv:=fun d=>rT (t:= { r.t with ins:=r.t.ins++[C] }) (o:=o) (i:=(.own EC (S.length+1) 1 0 1)) (u:=u) (p:=p) (n:=2) (iD d (.vec EC [bq C]) _) (fin d _).1 (fin d (.cells [o,I 2,.str r.t.name,.own EC (S.length+1) 1 0 1,u,I r.t.aM,I r.t.agg,p])).2;simp only[bq,dy]at c2;refine eM.go ?_;unfold eP;intro Q aF aG aH;cases b
  ·repeat' first|simp (disch:=omega) only[go_sem,aF,aG,aH,hk,hap,iQ,iD,bA,aB,if_false,bH,aS]|refine aE ?_|refine aD ?_ ?_<;>intro hw<;>try omega|fail
   all_goals first|(exfalso;omega)|(exfalso;contradiction)|exact⟨rfl,_,_,rfl,fin _ _⟩|skip
  ·repeat' first|simp (disch:=omega) only[go_sem,aF,aG,aH,hk,hap,iQ,iD,bA,aB,if_false,bH,aS]|refine aE ?_|refine aD ?_ ?_<;>intro hw<;>try omega|fail
   all_goals first|(exfalso;omega)|(exfalso;contradiction)|skip
   all_goals refine lS (hv _) ok ?_
   all_goals cases hst:dP { r.t with ins:=r.t.ins++[C] }
   all_goals
    repeat' first|simp (disch:=omega) only[go_sem,aF,aG,aH,hk,hap,iQ,iD,bA,aB,if_false,bH,aS]|refine aE ?_|refine aD ?_ ?_<;>intro hw<;>try omega|fail
   all_goals first|exact⟨by simp[hst,oneOf],_,_,rfl,fin _ _⟩|skip
   all_goals refine rU (hv _) (zj hst).1 ?_
   all_goals cases hl:j_ { r.t with ins:=r.t.ins++[C] } s
   all_goals
    repeat' first|simp (disch:=omega) only[go_sem,aF,aG,aH,hk,hap,iQ,iD,bA,aB,if_false,bH,aS]|refine aE ?_|refine aD ?_ ?_<;>intro hw<;>try omega|fail
   all_goals first|exact⟨by simp[hst,hl,oneOf],_,_,rfl,fin _ _⟩|skip
 ·have e3:(r.t.ins.map bq).length=r.t.ins.length:=bY ..;have hb:r.t.ins.length<=2 ^ 30:=hg.ok.2.1.1;have rP:q1≠k:=fun e=>by subst e;rw[hq]at hk;cases hk
  have lq:=ef hq;have hap:∀ d:aY,(S++[d])[k]? = some (.cells [o,I r.now,.str r.t.name,.own EC q1 (r.t.ins.map bq).length 0 (r.t.ins.map bq).length,u,I r.t.aM,I r.t.agg,p]):=fun d=>by rw[aC lt];exact hk
  have qt:∀ d:aY,(S++[d])[q1]? = some (.vec EC (r.t.ins.map bq)):=fun d=>by rw[aC lq];exact hq
  have iQ:∀ d e:aY,((S++[d]).set q1 e)[k]? = some (.cells [o,I r.now,.str r.t.name,.own EC q1 (r.t.ins.map bq).length 0 (r.t.ins.map bq).length,u,I r.t.aM,I r.t.agg,p]):=fun d e=>by rw[List.getElem?_set_ne rP];exact hap d
  have iD:∀ d e c:aY,(((S++[d]).set q1 e).set k c)[k]? = some c:=fun d e c=>List.getElem?_set_self (by simp;omega)
  have fin:∀ d c:aY,jC (((S++[d]).set q1 (aY.vec EC (r.t.ins.map bq++[bq C]))).set k c) k r.out o q0 ys/\nj (((S++[d]).set q1 (aY.vec EC (r.t.ins.map bq++[bq C]))).set k c) k D (.own EC q1 ((r.t.ins.map bq).length+1) 0 ((r.t.ins.map bq).length+1)) u p q1 q2 q3:=fun d c=>by
   rw[uT];exact ab7 hk h0 ⟨hi,hu,hp,hd⟩ he hq C (by rw[List.getElem?_set_ne (Ne.symm rP),List.getElem?_set_self (by simp;omega)]) NO
  subst uT;have hv:=fun d=>rT (t:= { r.t with ins:=r.t.ins++[C] }) (o:=o) (i:=(.own EC q1 ((r.t.ins.map bq).length+1) 0 ((r.t.ins.map bq).length+1))) (u:=u) (p:=p) (n:=2) (iD d (.vec EC (r.t.ins.map bq++[bq C])) _) (fin d _).1 (fin d (.cells [o,I 2,.str r.t.name,.own EC q1 ((r.t.ins.map bq).length+1) 0 ((r.t.ins.map bq).length+1),u,I r.t.aM,I r.t.agg,p])).2;rw[e3]at hap iQ hk;rw[e3]at hv;simp only[e3]at fin;simp only[bq,dy]at c2;refine eM.go ?_;unfold eP;intro Q aF aG aH;cases b
  ·repeat' first|simp (disch:=omega) only[go_sem,aF,aG,aH,hk,hap,qt,iQ,iD,bA,aB,if_false,bH,aS]|refine aE ?_|refine aD ?_ ?_<;>intro hw<;>try omega|fail
   all_goals first|(exfalso;omega)|(exfalso;contradiction)|exact⟨rfl,_,_,rfl,fin _ _⟩|skip
  ·repeat' first|simp (disch:=omega) only[go_sem,aF,aG,aH,hk,hap,qt,iQ,iD,bA,aB,if_false,bH,aS]|refine aE ?_|refine aD ?_ ?_<;>intro hw<;>try omega|fail
   all_goals first|(exfalso;omega)|(exfalso;contradiction)|skip
   all_goals refine lS (hv _) ok ?_
   all_goals cases hst:dP { r.t with ins:=r.t.ins++[C] }
   all_goals
    repeat' first|simp (disch:=omega) only[go_sem,aF,aG,aH,hk,hap,qt,iQ,iD,bA,aB,if_false,bH,aS]|refine aE ?_|refine aD ?_ ?_<;>intro hw<;>try omega|fail
   all_goals first|exact⟨by simp[hst,oneOf],_,_,rfl,fin _ _⟩|skip
   all_goals refine rU (hv _) (zj hst).1 ?_
   all_goals cases hl:j_ { r.t with ins:=r.t.ins++[C] } s
   all_goals
    repeat' first|simp (disch:=omega) only[go_sem,aF,aG,aH,hk,hap,qt,iQ,iD,bA,aB,if_false,bH,aS]|refine aE ?_|refine aD ?_ ?_<;>intro hw<;>try omega|fail
   all_goals first|exact⟨by simp[hst,hl,oneOf],_,_,rfl,fin _ _⟩|skip
def SP {S : ae} {k : Nat} {r : gu} {s : aI} {o i u p : AV} {q0 q1 q2 q3 : Nat} {ys : List AV} (hw : (cH 32 s).1 = tW) (hn : r.now = 2 \/ r.now = 3) (X0 : r.t.ins ≠ []) (hs : s.length <= 2 ^ 16)
    (hk:S[k]? = some (.cells [o,I r.now,.str r.t.name,i,u,I r.t.aM,I r.t.agg,p])) (h0:jC S k r.out o q0 ys) (ht:nj S k r.t i u p q1 q2 q3) (hg:vX r.t) :
    cN aK 60 [.ref k 0,.str s] S fun o' S'=>o' = .ret (.bool ((kG s).2 && dP (l9 r s).t && j_ (l9 r s).t s))/\ ∃ v' q',S'[k]? = some (.cells [o,I 3,.str r.t.name,i,v',I r.t.aM,I r.t.agg,p])/\jC S' k r.out o q0 ys/\nj S' k (l9 r s).t i v' p q1 q' q3:=by
 have c1:=m_ s 32 (by omega);have c2:=Ba s (by omega);have ok:=Ks hg hs;have zj:=fun h=>vW ok (fun e=>X0 (List.length_eq_zero_iff.1 e)) h;generalize cH 32 s=X at *;obtain⟨w,rest,f⟩:=X;dsimp only at hw;subst hw;simp only[vf]at c1;generalize hD:(l9 r s).t=D at *;obtain⟨C,hC⟩:∃ C,kG s=C:=⟨_,rfl⟩;have uT:D = { r.t with outs:=r.t.outs++[C.1] }:=by rw[<-hD,<-hC];rfl
 rw[hC]at c2 ⊢;obtain⟨C,b⟩:=C;dsimp only at c2 uT ⊢;have lt:=ef hk;obtain⟨hi,hu,hp,hd⟩:=ht;have hx:=hu;rcases hx with⟨he,rfl⟩|⟨he,rfl,hq⟩
 ·have hap:∀ d:aY,(S++[d])[k]? = some (.cells [o,I r.now,.str r.t.name,i,.au,I r.t.aM,I r.t.agg,p]):=fun d=>by rw[aC lt];exact hk
  have iQ:∀ d e:aY,(S++[d]++[e])[k]? = some (.cells [o,I r.now,.str r.t.name,i,.au,I r.t.aM,I r.t.agg,p]):=fun d e=>by rw[aC (by simp;omega)];exact hap d
  have iD:∀ d e c:aY,((S++[d]++[e]).set k c)[k]? = some c:=fun d e c=>List.getElem?_set_self (by simp;omega)
  have fin:∀ d c:aY,jC ((S++[d]++[aY.vec EC [bq C]]).set k c) k r.out o q0 ys/\nj ((S++[d]++[aY.vec EC [bq C]]).set k c) k D i (.own EC (S.length+1) 1 0 1) p q1 (S.length+1) q3:=fun d c=>by
   rw[uT];exact aad hk h0 ⟨hi,hu,hp,hd⟩ he C (by omega) (by rw[List.getElem?_set_ne (by omega)];simp) NN
  subst uT;have hv:=fun d=>rT (t:= { r.t with outs:=r.t.outs++[C] }) (o:=o) (i:=i) (u:=(.own EC (S.length+1) 1 0 1)) (p:=p) (n:=3) (iD d (.vec EC [bq C]) _) (fin d _).1 (fin d (.cells [o,I 3,.str r.t.name,i,.own EC (S.length+1) 1 0 1,I r.t.aM,I r.t.agg,p])).2;simp only[bq,dy]at c2;refine eM.go ?_;unfold eP;intro Q aF aG aH;cases b
  ·repeat' first|simp (disch:=omega) only[go_sem,aF,aG,aH,hk,hap,iQ,iD,bA,aB,if_false,bH,aS]|refine aE ?_|refine aD ?_ ?_<;>intro hw<;>try omega|fail
   all_goals first|(exfalso;omega)|(exfalso;contradiction)|exact⟨rfl,_,_,rfl,fin _ _⟩|skip
  ·repeat' first|simp (disch:=omega) only[go_sem,aF,aG,aH,hk,hap,iQ,iD,bA,aB,if_false,bH,aS]|refine aE ?_|refine aD ?_ ?_<;>intro hw<;>try omega|fail
   all_goals first|(exfalso;omega)|(exfalso;contradiction)|skip
   all_goals refine lS (hv _) ok ?_
   all_goals cases hst:dP { r.t with outs:=r.t.outs++[C] }
   all_goals
    repeat' first|simp (disch:=omega) only[go_sem,aF,aG,aH,hk,hap,iQ,iD,bA,aB,if_false,bH,aS]|refine aE ?_|refine aD ?_ ?_<;>intro hw<;>try omega|fail
   all_goals first|exact⟨by simp[hst,oneOf],_,_,rfl,fin _ _⟩|skip
   all_goals refine rU (hv _) (zj hst).1 ?_
   all_goals cases hl:j_ { r.t with outs:=r.t.outs++[C] } s
   all_goals
    repeat' first|simp (disch:=omega) only[go_sem,aF,aG,aH,hk,hap,iQ,iD,bA,aB,if_false,bH,aS]|refine aE ?_|refine aD ?_ ?_<;>intro hw<;>try omega|fail
   all_goals first|exact⟨by simp[hst,hl,oneOf],_,_,rfl,fin _ _⟩|skip
 ·have e3:(r.t.outs.map bq).length=r.t.outs.length:=bY ..;have hb:r.t.outs.length<=2 ^ 30:=hg.ok.2.2.1.1;have rP:q2≠k:=fun e=>by subst e;rw[hq]at hk;cases hk
  have lq:=ef hq;have hap:∀ d:aY,(S++[d])[k]? = some (.cells [o,I r.now,.str r.t.name,i,.own EC q2 (r.t.outs.map bq).length 0 (r.t.outs.map bq).length,I r.t.aM,I r.t.agg,p]):=fun d=>by rw[aC lt];exact hk
  have qt:∀ d:aY,(S++[d])[q2]? = some (.vec EC (r.t.outs.map bq)):=fun d=>by rw[aC lq];exact hq
  have iQ:∀ d e:aY,((S++[d]).set q2 e)[k]? = some (.cells [o,I r.now,.str r.t.name,i,.own EC q2 (r.t.outs.map bq).length 0 (r.t.outs.map bq).length,I r.t.aM,I r.t.agg,p]):=fun d e=>by rw[List.getElem?_set_ne rP];exact hap d
  have iD:∀ d e c:aY,(((S++[d]).set q2 e).set k c)[k]? = some c:=fun d e c=>List.getElem?_set_self (by simp;omega)
  have fin:∀ d c:aY,jC (((S++[d]).set q2 (aY.vec EC (r.t.outs.map bq++[bq C]))).set k c) k r.out o q0 ys/\nj (((S++[d]).set q2 (aY.vec EC (r.t.outs.map bq++[bq C]))).set k c) k D i (.own EC q2 ((r.t.outs.map bq).length+1) 0 ((r.t.outs.map bq).length+1)) p q1 q2 q3:=fun d c=>by
   rw[uT];exact aae hk h0 ⟨hi,hu,hp,hd⟩ he hq C (by rw[List.getElem?_set_ne (Ne.symm rP),List.getElem?_set_self (by simp;omega)]) NO
  subst uT;have hv:=fun d=>rT (t:= { r.t with outs:=r.t.outs++[C] }) (o:=o) (i:=i) (u:=(.own EC q2 ((r.t.outs.map bq).length+1) 0 ((r.t.outs.map bq).length+1))) (p:=p) (n:=3) (iD d (.vec EC (r.t.outs.map bq++[bq C])) _) (fin d _).1 (fin d (.cells [o,I 3,.str r.t.name,i,.own EC q2 ((r.t.outs.map bq).length+1) 0 ((r.t.outs.map bq).length+1),I r.t.aM,I r.t.agg,p])).2;rw[e3]at hap iQ hk;rw[e3]at hv;simp only[e3]at fin;simp only[bq,dy]at c2;refine eM.go ?_;unfold eP;intro Q aF aG aH;cases b
  ·repeat' first|simp (disch:=omega) only[go_sem,aF,aG,aH,hk,hap,qt,iQ,iD,bA,aB,if_false,bH,aS]|refine aE ?_|refine aD ?_ ?_<;>intro hw<;>try omega|fail
   all_goals first|(exfalso;omega)|(exfalso;contradiction)|exact⟨rfl,_,_,rfl,fin _ _⟩|skip
  ·repeat' first|simp (disch:=omega) only[go_sem,aF,aG,aH,hk,hap,qt,iQ,iD,bA,aB,if_false,bH,aS]|refine aE ?_|refine aD ?_ ?_<;>intro hw<;>try omega|fail
   all_goals first|(exfalso;omega)|(exfalso;contradiction)|skip
   all_goals refine lS (hv _) ok ?_
   all_goals cases hst:dP { r.t with outs:=r.t.outs++[C] }
   all_goals
    repeat' first|simp (disch:=omega) only[go_sem,aF,aG,aH,hk,hap,qt,iQ,iD,bA,aB,if_false,bH,aS]|refine aE ?_|refine aD ?_ ?_<;>intro hw<;>try omega|fail
   all_goals first|exact⟨by simp[hst,oneOf],_,_,rfl,fin _ _⟩|skip
   all_goals refine rU (hv _) (zj hst).1 ?_
   all_goals cases hl:j_ { r.t with outs:=r.t.outs++[C] } s
   all_goals
    repeat' first|simp (disch:=omega) only[go_sem,aF,aG,aH,hk,hap,qt,iQ,iD,bA,aB,if_false,bH,aS]|refine aE ?_|refine aD ?_ ?_<;>intro hw<;>try omega|fail
   all_goals first|exact⟨by simp[hst,hl,oneOf],_,_,rfl,fin _ _⟩|skip
def Ph {S : ae} {k : Nat} {r : gu} {s : aI} {o i u p : AV} {q0 q1 q2 q3 : Nat} {ys : List AV} (hw : (cH 32 s).1 = sY) (hn : 3 <= r.now) (X0 : r.t.ins ≠ []) (hs : s.length <= 2 ^ 16)
    (hk:S[k]? = some (.cells [o,I r.now,.str r.t.name,i,u,I r.t.aM,I r.t.agg,p])) (h0:jC S k r.out o q0 ys) (ht:nj S k r.t i u p q1 q2 q3) (hg:vX r.t) :
    cN aK 60 [.ref k 0,.str s] S fun o' S'=>o' = .ret (.bool ((kO s).2 && dP (kB r s).t && j_ (kB r s).t s))/\ ∃ v' q',S'[k]? = some (.cells [o,I 4,.str r.t.name,i,u,I r.t.aM,I r.t.agg,v'])/\jC S' k r.out o q0 ys/\nj S' k (kB r s).t i u v' q1 q2 q':=by
 have c1:=m_ s 32 (by omega);have c2:=Pe s (by omega);have ok:=Ho hg hs;have zj:=fun h=>vW ok (fun e=>X0 (List.length_eq_zero_iff.1 e)) h;generalize cH 32 s=X at *;obtain⟨w,rest,f⟩:=X;dsimp only at hw;subst hw;simp only[vf]at c1;generalize hD:(kB r s).t=D at *;obtain⟨C,hC⟩:∃ C,kO s=C:=⟨_,rfl⟩;have uT:D = { r.t with rules:=r.t.rules++[C.1] }:=by rw[<-hD,<-hC];rfl
 rw[hC]at c2 ⊢;obtain⟨C,b⟩:=C;dsimp only at c2 uT ⊢;have lt:=ef hk;obtain⟨hi,hu,hp,hd⟩:=ht;have hx:=hp;rcases hx with⟨he,rfl⟩|⟨he,rfl,hq⟩
 ·have hap:∀ d:aY,(S++[d])[k]? = some (.cells [o,I r.now,.str r.t.name,i,u,I r.t.aM,I r.t.agg,.au]):=fun d=>by rw[aC lt];exact hk
  have iQ:∀ d e:aY,(S++[d]++[e])[k]? = some (.cells [o,I r.now,.str r.t.name,i,u,I r.t.aM,I r.t.agg,.au]):=fun d e=>by rw[aC (by simp;omega)];exact hap d
  have iD:∀ d e c:aY,((S++[d]++[e]).set k c)[k]? = some c:=fun d e c=>List.getElem?_set_self (by simp;omega)
  have fin:∀ d c:aY,jC ((S++[d]++[aY.vec ER [cu C]]).set k c) k r.out o q0 ys/\nj ((S++[d]++[aY.vec ER [cu C]]).set k c) k D i u (.own ER (S.length+1) 1 0 1) q1 q2 (S.length+1):=fun d c=>by
   rw[uT];exact XY hk h0 ⟨hi,hu,hp,hd⟩ he C (by omega) (by rw[List.getElem?_set_ne (by omega)];simp) NN
  subst uT;have hv:=fun d=>rT (t:= { r.t with rules:=r.t.rules++[C] }) (o:=o) (i:=i) (u:=u) (p:=(.own ER (S.length+1) 1 0 1)) (n:=4) (iD d (.vec ER [cu C]) _) (fin d _).1 (fin d (.cells [o,I 4,.str r.t.name,i,u,I r.t.aM,I r.t.agg,.own ER (S.length+1) 1 0 1])).2;simp only[cu,bX]at c2;refine eM.go ?_;unfold eP;intro Q aF aG aH;cases b
  ·repeat' first|simp (disch:=omega) only[go_sem,aF,aG,aH,hk,hap,iQ,iD,bA,aB,if_false,bH,aS]|refine aE ?_|refine aD ?_ ?_<;>intro hw<;>try omega|fail
   all_goals first|(exfalso;omega)|(exfalso;contradiction)|exact⟨rfl,_,_,rfl,fin _ _⟩|skip
  ·repeat' first|simp (disch:=omega) only[go_sem,aF,aG,aH,hk,hap,iQ,iD,bA,aB,if_false,bH,aS]|refine aE ?_|refine aD ?_ ?_<;>intro hw<;>try omega|fail
   all_goals first|(exfalso;omega)|(exfalso;contradiction)|skip
   all_goals refine lS (hv _) ok ?_
   all_goals cases hst:dP { r.t with rules:=r.t.rules++[C] }
   all_goals
    repeat' first|simp (disch:=omega) only[go_sem,aF,aG,aH,hk,hap,iQ,iD,bA,aB,if_false,bH,aS]|refine aE ?_|refine aD ?_ ?_<;>intro hw<;>try omega|fail
   all_goals first|exact⟨by simp[hst,oneOf],_,_,rfl,fin _ _⟩|skip
   all_goals refine rU (hv _) (zj hst).1 ?_
   all_goals cases hl:j_ { r.t with rules:=r.t.rules++[C] } s
   all_goals
    repeat' first|simp (disch:=omega) only[go_sem,aF,aG,aH,hk,hap,iQ,iD,bA,aB,if_false,bH,aS]|refine aE ?_|refine aD ?_ ?_<;>intro hw<;>try omega|fail
   all_goals first|exact⟨by simp[hst,hl,oneOf],_,_,rfl,fin _ _⟩|skip
 ·have e3:(r.t.rules.map cu).length=r.t.rules.length:=bY ..;have hb:r.t.rules.length<=2 ^ 30:=hg.ok.2.2.2.1;have rP:q3≠k:=fun e=>by subst e;rw[hq]at hk;cases hk
  have lq:=ef hq;have hap:∀ d:aY,(S++[d])[k]? = some (.cells [o,I r.now,.str r.t.name,i,u,I r.t.aM,I r.t.agg,.own ER q3 (r.t.rules.map cu).length 0 (r.t.rules.map cu).length]):=fun d=>by rw[aC lt];exact hk
  have qt:∀ d:aY,(S++[d])[q3]? = some (.vec ER (r.t.rules.map cu)):=fun d=>by rw[aC lq];exact hq
  have iQ:∀ d e:aY,((S++[d]).set q3 e)[k]? = some (.cells [o,I r.now,.str r.t.name,i,u,I r.t.aM,I r.t.agg,.own ER q3 (r.t.rules.map cu).length 0 (r.t.rules.map cu).length]):=fun d e=>by rw[List.getElem?_set_ne rP];exact hap d
  have iD:∀ d e c:aY,(((S++[d]).set q3 e).set k c)[k]? = some c:=fun d e c=>List.getElem?_set_self (by simp;omega)
  have fin:∀ d c:aY,jC (((S++[d]).set q3 (aY.vec ER (r.t.rules.map cu++[cu C]))).set k c) k r.out o q0 ys/\nj (((S++[d]).set q3 (aY.vec ER (r.t.rules.map cu++[cu C]))).set k c) k D i u (.own ER q3 ((r.t.rules.map cu).length+1) 0 ((r.t.rules.map cu).length+1)) q1 q2 q3:=fun d c=>by
   rw[uT];exact XZ hk h0 ⟨hi,hu,hp,hd⟩ he hq C (by rw[List.getElem?_set_ne (Ne.symm rP),List.getElem?_set_self (by simp;omega)]) NO
  subst uT;have hv:=fun d=>rT (t:= { r.t with rules:=r.t.rules++[C] }) (o:=o) (i:=i) (u:=u) (p:=(.own ER q3 ((r.t.rules.map cu).length+1) 0 ((r.t.rules.map cu).length+1))) (n:=4) (iD d (.vec ER (r.t.rules.map cu++[cu C])) _) (fin d _).1 (fin d (.cells [o,I 4,.str r.t.name,i,u,I r.t.aM,I r.t.agg,.own ER q3 ((r.t.rules.map cu).length+1) 0 ((r.t.rules.map cu).length+1)])).2;rw[e3]at hap iQ hk;rw[e3]at hv;simp only[e3]at fin;simp only[cu,bX]at c2;refine eM.go ?_;unfold eP;intro Q aF aG aH;cases b
  ·repeat' first|simp (disch:=omega) only[go_sem,aF,aG,aH,hk,hap,qt,iQ,iD,bA,aB,if_false,bH,aS]|refine aE ?_|refine aD ?_ ?_<;>intro hw<;>try omega|fail
   all_goals first|(exfalso;omega)|(exfalso;contradiction)|exact⟨rfl,_,_,rfl,fin _ _⟩|skip
  ·repeat' first|simp (disch:=omega) only[go_sem,aF,aG,aH,hk,hap,qt,iQ,iD,bA,aB,if_false,bH,aS]|refine aE ?_|refine aD ?_ ?_<;>intro hw<;>try omega|fail
   all_goals first|(exfalso;omega)|(exfalso;contradiction)|skip
   all_goals refine lS (hv _) ok ?_
   all_goals cases hst:dP { r.t with rules:=r.t.rules++[C] }
   all_goals
    repeat' first|simp (disch:=omega) only[go_sem,aF,aG,aH,hk,hap,qt,iQ,iD,bA,aB,if_false,bH,aS]|refine aE ?_|refine aD ?_ ?_<;>intro hw<;>try omega|fail
   all_goals first|exact⟨by simp[hst,oneOf],_,_,rfl,fin _ _⟩|skip
   all_goals refine rU (hv _) (zj hst).1 ?_
   all_goals cases hl:j_ { r.t with rules:=r.t.rules++[C] } s
   all_goals
    repeat' first|simp (disch:=omega) only[go_sem,aF,aG,aH,hk,hap,qt,iQ,iD,bA,aB,if_false,bH,aS]|refine aE ?_|refine aD ?_ ?_<;>intro hw<;>try omega|fail
   all_goals first|exact⟨by simp[hst,hl,oneOf],_,_,rfl,fin _ _⟩|skip
def Fz(el:El)(v:AV)(ys:List AV): Prop:=(ys=[]/\v = .au)\/v = .aO false el ys
def Fz.view{σ : ae}{el:El}{v:AV}{ys:List AV}(h:Fz el v ys)(hp:AV.cA ys=true): View σ v (.aO false el ys):=by
 rcases h with⟨rfl,rfl⟩|rfl
 ·exact .au _
 ·exact .refl _ (by simpa[AV.dz]using hp)
def cN.SQ {P : Program} {f : FuncId} {args : List AV} {S : ae} {R : Out -> ae -> Prop} {k q : Nat} {el : El} {v : AV} {ys pre post : List AV} (hk : S[k]? = some (.cells (pre ++ v :: post))) (h : Lv S el q v ys)
    (hR:∀ S' v',Fz el v' ys->S'[k]? = some (.cells (pre++v'::post))->(∀ j o,S[j]? = some o->j≠k->(ys≠[]->j≠q)->S'[j]? = some o)->cN P f args S' R):cN P f args S R:=by
 rcases h with⟨rfl,rfl⟩|⟨h1,rfl,h3⟩
 ·exact hR S .au (.inl ⟨rfl,rfl⟩) hk (fun j o hj _ _=>hj)
 ·have hkq:k≠q:=fun e=>by subst e;rw[hk]at h3;cases h3
  refine cN.afo (pre++ .aO false el ys::post) h3 hk h1 (by simp) (fun i=>?_) (hR _ _ (.inr rfl) ?_ ?_)
  ·by_cases e:i=pre.length
   ·subst e;right;simp[aj]
   ·left;simp only[aj];rcases Nat.lt_or_ge i pre.length with hl|hl
    ·rw[aC hl,aC hl]
    ·rw[bE hl,bE hl];obtain⟨m,hm⟩:∃ m,i-pre.length=m+1:=⟨i-pre.length-1,by omega⟩;rw[hm,dL,dL]
  ·rw[List.getElem?_set_self (by simpa using ef hk)]
  ·intro j o hj hne hq;rw[List.getElem?_set_ne (Ne.symm hne),List.getElem?_set_ne (Ne.symm (hq h1))];exact hj
def Kv{σ : ae}{xs ys:List AV}{a b:AV}(h:bL σ xs ys)(hab:View σ a b): bL σ (xs++[a]) (ys++[b]):=by
 refine⟨by simp[h.1],fun i hi=>?_⟩;simp only[aj];rcases Nat.lt_or_ge i xs.length with hl|hl
 ·rw[aC hl,aC (by have:=h.1;omega)];have:=h.2 i hl;simpa only[aj]using this
 ·have:i=xs.length:=by simp at hi;omega
  subst this;rw[bE (Nat.le_refl _),bE (by have:=h.1;omega),h.1];simpa using hab
def NQ{S S':ae}{k q:Nat}{l:List dX}{o x:AV}{q0:Nat}{ys:List AV}{c:dX}(h:jC S k l o q0 ys)(hy:ys=[])(hx:View [] x (ey c))(h1:S'[q]? = some (.vec EK [x])): jC S' k (l++[c]) (.own EK q 1 0 1) q (ys++[x]):=by
 subst hy;exact⟨by rw[fY];exact Kv h.vw hx,.inr ⟨by simp,by simp,by simpa using h1⟩⟩
def NR{S S':ae}{k:Nat}{l:List dX}{o x:AV}{q0:Nat}{ys:List AV}{c:dX}(h:jC S k l o q0 ys)(hx:View [] x (ey c))(h1:S'[q0]? = some (.vec EK (ys++[x]))): jC S' k (l++[c]) (.own EK q0 (ys.length+1) 0 (ys.length+1)) q0 (ys++[x]) :=
 ⟨by rw[fY];exact Kv h.vw hx,.inr ⟨by simp,by simp,h1⟩⟩
def Hr{S:ae}{k:Nat}{l:List dX}{o:AV}{q0:Nat}{ys:List AV}(h:jC S k l o q0 ys): ys.length=l.length:=by
 have:=h.vw.1;simpa using this
def Pj {S : ae} {k : Nat} {r : gu} {o i u p : AV} {q0 : Nat} {ys : List AV} (hn : 3 <= r.now) (hl : r.out.length < 64)
    (hk:S[k]? = some (.cells [o,I r.now,.str r.t.name,i,u,I r.t.aM,I r.t.agg,p])) (h0:jC S k r.out o q0 ys) (hi:Fz EC i (r.t.ins.map bq)) (hu:Fz EC u (r.t.outs.map bq)) (hp:Fz ER p (r.t.rules.map cu)) (si:i.scalar=true) (su:u.scalar=true) (sp:p.scalar=true) :
    cN aK 60 [.ref k 0,.str qp] S fun o' S'=>o' = .ret (.bool true)/\ ∃ o1 q1 VN,S'[k]? = some (.cells [o1,I 0,.str r.t.name,i,u,I r.t.aM,I r.t.agg,p])/\jC S' k (r.out++[{ eS with kind:=1,table:=r.t }]) o1 q1 VN:=by
 have c1:=m_ qp 32 (by decide);have e1:cH 32 qp=(qp,[],false):=by decide
 rw[e1]at c1;simp only[vf]at c1;have lt:=ef hk
 have hx:View [] (.agg [I 1,.str r.t.name,i,u,I r.t.aM,I r.t.agg,p,.str [],I 0,.au,I 0,I 0]) (ey { eS with kind:=1,table:=r.t }) :=
  Fp (c:= { eS with kind:=1,table:=r.t }) (hi.view (wN _)) (hu.view (wN _)) (hp.view (B7 _)) (.au _)
 have hlen:=Hr h0;have hsc:True/\[AV.str r.t.name,i,u,I r.t.aM,I r.t.agg,p].all AV.scalar=true/\7<=12:=⟨trivial,by simp only[List.all_cons,List.all_nil,si,su,sp];rfl,by decide⟩;have hfit:AV.fits ⟨true,12⟩ (.agg [.int .i64 1,.str r.t.name,i,u,I r.t.aM,I r.t.agg,p,W.e0,W.z0,.au,W.z0,W.z0])=true/\0<1:=⟨by simp only[AV.fits,List.all_cons,List.all_nil,si,su,sp];rfl,by decide⟩;have Cq:([AV.agg [.int .i64 1,.str r.t.name,i,u,I r.t.aM,I r.t.agg,p,W.e0,W.z0,.au,W.z0,W.z0]].all fun a=>AV.fits ⟨true,12⟩ a)=true:=by rw[List.all_cons,hfit.1];rfl
 have hr1:([AV.agg [.int .i64 1,.str r.t.name,i,u,I r.t.aM,I r.t.agg,p,W.e0,W.z0,.au,W.z0,W.z0]].all fun a=>AV.fits ⟨true,12⟩ a)=true/\fJ 1 ⟨true,12⟩:=⟨Cq,by unfold fJ;decide⟩;have h0':=h0;rcases h0.o with⟨he,rfl⟩|⟨he,rfl,hq⟩
 ·have hap:∀ d:aY,(S++[d])[k]? = some (.cells [.au,I r.now,.str r.t.name,i,u,I r.t.aM,I r.t.agg,p]):=fun d=>by rw[aC lt];exact hk
  have iD:∀ d c:aY,((S++[d]).set k c)[k]? = some c:=fun d c=>List.getElem?_set_self (by simp;omega)
  have fin:∀ c:aY,jC ((S++[aY.vec EK [.agg [I 1,.str r.t.name,i,u,I r.t.aM,I r.t.agg,p,.str [],I 0,.au,I 0,I 0]]]).set k c) k (r.out++[{ eS with kind:=1,table:=r.t }]) (.own EK S.length 1 0 1) S.length (ys++[.agg [I 1,.str r.t.name,i,u,I r.t.aM,I r.t.agg,p,.str [],I 0,.au,I 0,I 0]]):=fun c =>
   NQ h0 he hx (by rw[List.getElem?_set_ne (by omega)];simp)
  refine eM.go ?_;unfold eP;intro Q aF aG aH;repeat' first|simp (disch:=omega) only[go_sem,aF,aG,aH,hk,hap,iD,si,su,sp,bA,aB,if_false,bH,aS]|refine aE ?_|refine aD ?_ ?_<;>intro hw<;>try omega|fail
  all_goals first|(exfalso;omega)|(exfalso;simp_all;done)|exact⟨rfl,_,_,_,rfl,fin _⟩|skip
 ·have rP:q0≠k:=fun e=>by subst e;rw[hq]at hk;cases hk
  have hap:∀ e:aY,(S.set q0 e)[k]? = some (.cells [.own EK q0 ys.length 0 ys.length,I r.now,.str r.t.name,i,u,I r.t.aM,I r.t.agg,p]):=fun e=>by rw[List.getElem?_set_ne rP];exact hk
  have iD:∀ e c:aY,((S.set q0 e).set k c)[k]? = some c:=fun e c=>List.getElem?_set_self (by simp;omega)
  have fin:∀ c:aY,jC ((S.set q0 (aY.vec EK (ys++[.agg [I 1,.str r.t.name,i,u,I r.t.aM,I r.t.agg,p,.str [],I 0,.au,I 0,I 0]]))).set k c) k (r.out++[{ eS with kind:=1,table:=r.t }]) (.own EK q0 (ys.length+1) 0 (ys.length+1)) q0 (ys++[.agg [I 1,.str r.t.name,i,u,I r.t.aM,I r.t.agg,p,.str [],I 0,.au,I 0,I 0]]):=fun c =>
   NR h0 hx (by rw[List.getElem?_set_ne (Ne.symm rP),List.getElem?_set_self (ef hq)])
  refine eM.go ?_;unfold eP;intro Q aF aG aH;repeat' first|simp (disch:=omega) only[go_sem,aF,aG,aH,hk,hap,hq,iD,si,su,sp,bA,aB,if_false,bH,aS]|refine aE ?_|refine aD ?_ ?_<;>intro hw<;>try omega|fail
  all_goals first|(exfalso;omega)|(exfalso;simp_all;done)|exact⟨rfl,_,_,_,rfl,fin _⟩|skip
def Lv.Dt {S S' : ae} {k q1 : Nat} {cs : List AV} (hk : S[k]? = some (.cells cs)) {el el1 : El} {q : Nat} {v v1 : AV} {ys zs : List AV} (h : Lv S el q v ys) (h1 : Lv S el1 q1 v1 zs) (hne : el ≠ el1 \/ (ys ≠ [] -> zs ≠ [] -> q ≠ q1))
    (keep:∀ j o',S[j]? = some o'->j≠k->(zs≠[]->j≠q1)->S'[j]? = some o'):Lv S' el q v ys:=by
 rcases h with h|⟨a1,a2,a3⟩
 ·exact .inl h
 ·refine .inr ⟨a1,a2,keep _ _ a3 (fun e=>by subst e;rw[hk]at a3;cases a3) (fun hz=>?_)⟩;rcases hne with hne|hne
  ·rcases h1 with⟨e,_⟩|⟨_,_,b3⟩
   ·exact absurd e hz
   ·exact yc a3 b3 hne
  ·exact hne a1 hz
def Fz.scalar{el:El}{v:AV}{ys:List AV}(h:Fz el v ys): v.scalar=true:=by
 rcases h with⟨_,rfl⟩|rfl<;>rfl
def SR {S : ae} {k : Nat} {r : gu} {o i u p : AV} {q0 q1 q2 q3 : Nat} {ys : List AV} (hn : 3 <= r.now) (hl : r.out.length < 64)
    (hk:S[k]? = some (.cells [o,I r.now,.str r.t.name,i,u,I r.t.aM,I r.t.agg,p])) (h0:jC S k r.out o q0 ys) (ht:nj S k r.t i u p q1 q2 q3) :
    cN aK 60 [.ref k 0,.str qp] S fun o' S'=>o' = .ret (.bool true)/\ ∃ o1 i1 u1 p1 q VN,S'[k]? = some (.cells [o1,I 0,.str r.t.name,i1,u1,I r.t.aM,I r.t.agg,p1])/\jC S' k (r.out++[{ eS with kind:=1,table:=r.t }]) o1 q VN:=by
 obtain⟨ti,tu,tp,td⟩:=ht;refine cN.SQ (pre:=[o,I r.now,.str r.t.name]) (post:=[u,I r.t.aM,I r.t.agg,p]) hk ti (fun S1 i1 f1 k1 g1=>?_);have o1:=h0.o.Dt hk ti (.inl (by decide)) g1;have u1:=tu.Dt hk ti (.inr (fun a b=>(td (fun e=>b (by rw[e];rfl)) (fun e=>a (by rw[e];rfl))).symm)) g1;have p1:=tp.Dt hk ti (.inl (by decide)) g1;refine cN.SQ (pre:=[o,I r.now,.str r.t.name,i1]) (post:=[I r.t.aM,I r.t.agg,p]) k1 u1 (fun S2 u2 f2 k2 g2=>?_);have o2:=o1.Dt k1 u1 (.inl (by decide)) g2;have p2:=p1.Dt k1 u1 (.inl (by decide)) g2;refine cN.SQ (pre:=[o,I r.now,.str r.t.name,i1,u2,I r.t.aM,I r.t.agg]) (post:=[]) k2 p2 (fun S3 p3 f3 k3 g3=>?_);have o3:=o2.Dt k2 p2 (.inl (by decide)) g3;refine(Pj hn hl k3 ⟨h0.vw,o3⟩ f1 f2 f3 f1.scalar f2.scalar f3.scalar).mono ?_;rintro e s ⟨rfl,a,b,c,d⟩;exact⟨rfl,a,i1,u2,p3,b,c,d⟩
def VO {S : ae} {k : Nat} {r : gu} {s : aI} {o i u p : AV} (hs : s.length <= 2 ^ 16) (h1 : ¬((cH 32 s).1 = D_ /\ r.now <= 2)) (h2 : ¬((cH 32 s).1 = tW /\ (r.now = 2 \/ r.now = 3))) (h3 : ¬((cH 32 s).1 = sY /\ 3 <= r.now)) (h4 : ¬(s = qp /\ 3 <= r.now))
    (hk:S[k]? = some (.cells [o,I r.now,.str r.t.name,i,u,I r.t.aM,I r.t.agg,p])) :
    cN aK 60 [.ref k 0,.str s] S fun o' S'=>o' = .ret (.bool false)/\S'=S:=by
 have c1:=m_ s 32 (by omega);generalize cH 32 s=X at *;obtain⟨w,rest,f⟩:=X;dsimp only at h1 h2 h3;simp only[vf]at c1;refine eM.go ?_;unfold eP;intro Q aF aG aH;repeat' first|simp (disch:=omega) only[go_sem,aF,aG,aH,hk]|refine aE ?_|refine aD ?_ ?_<;>intro hw<;>try omega|fail
 all_goals first|exact⟨rfl,trivial⟩|exact⟨rfl,rfl⟩|(exfalso;first|exact h1 ⟨by assumption,by assumption⟩|exact h3 ⟨by assumption,by assumption⟩|exact h4 ⟨by assumption,by assumption⟩|exact h2 ⟨by assumption,.inl (by assumption)⟩|exact h2 ⟨by assumption,.inr (by assumption)⟩)|exact bN|skip
def NS {S : ae} {k : Nat} {r : gu} {s : aI} {o i u p : AV} {n a b : Int} {nm : aI} (hs : s.length <= 2 ^ 16)
    (hk:S[k]? = some (.cells [o,I n,.str nm,i,u,I a,I b,p])) :
    cN aK 62 [.ref k 0,.str s] S fun o' S'=>o' = .ret (.bool (gw r s).2)/\((gw r s).2=true->S'=S.set k (.cells [o,I 1,.str (gw r s).1.t.name,.au,.au,I (gw r s).1.t.aM,I (gw r s).1.t.agg,.au])):=by
 have c1:aP aK 107 [.str s,I 4] (tZ (cn s 4)):=pI s 4 (by decide) (by decide) (by omega);obtain⟨s1,s2,s3⟩:=lR s 4;obtain⟨R,hR⟩:∃ R,gw r s=R:=⟨_,rfl⟩;rw[hR];unfold gw at hR;generalize cn s 4=t at *;obtain⟨l,rest,ok⟩:=t;dsimp only at *;simp only[tZ,bX]at c1;have g1:l.getD (Int.toNat 1) default=l.getD 1 []:=rfl;have g2:l.getD (Int.toNat 2) default=l.getD 2 []:=rfl;have g3:l.getD (Int.toNat 3) default=l.getD 3 []:=rfl;have c2:=tQ (l.getD 1 []) (by have:=mz s2 1;omega);have c3:=x9;have c4:=Ec;have c5:=oL rB (l.getD 2 []) (by decide);have c6:=oL rC (l.getD 3 []) (by decide);simp only[bX]at c3 c4 c5 c6;generalize l.getD 1 []=nm at *;generalize l.getD 2 []=w2 at *;generalize l.getD 3 []=w3 at *;generalize fy (fun x=>x==w2) rB=pi at *;generalize fy (fun x=>x==w3) rC=ai at *;have lt:=ef hk;have iD:∀ c,(S.set k c)[k]? = some c:=fun c=>List.getElem?_set_self lt;cases ok with
 | false =>
   rw[if_pos (.inl rfl)]at hR;rw[<-hR];refine mY.go ?_;unfold eP;intro Q aF aG aH;repeat' first|simp (disch:=omega) only[go_sem,aF,aG,aH,hk]|refine aE ?_|refine aD ?_ ?_<;>intro hw<;>try omega|fail
   all_goals first|exact bN|exact⟨rfl,fun h=>by cases h⟩|skip
 | true =>
 have hl:=s1 rfl;generalize eV nm=bn at *;by_cases hc:rest≠[]\/bn=false
 ·rw[if_pos (.inr hc)]at hR;rw[<-hR];refine mY.go ?_;unfold eP;intro Q aF aG aH;cases bn
  all_goals
   repeat' first|simp (disch:=omega) only[go_sem,aF,aG,aH,hk,hl,g1]|refine aE ?_|refine aD ?_ ?_<;>intro hw<;>try omega|fail
  all_goals first|exact bN|exact⟨rfl,fun h=>by cases h⟩|skip
 ·have hc2 : rest = [] /\ bn = true := by
   refine⟨Classical.byContradiction fun h=>hc (.inl h),?_⟩;cases bn
   ·exact absurd (.inr rfl) hc
   ·rfl
  obtain⟨rfl,rfl⟩:=hc2;rw[if_neg (by simp)]at hR;rw[<-hR];refine mY.go ?_;unfold eP;intro Q aF aG aH;repeat' first|simp (disch:=omega) only[go_sem,aF,aG,aH,hk,hl,g1,g2,g3,iD,bA]|refine aE ?_|refine aD ?_ ?_<;>intro hw<;>try omega|fail
  all_goals first|(refine⟨?_,fun _=>trivial⟩;rw[decide_eq_true (p:=0<pi) (by omega)];rfl)|(refine⟨?_,fun _=>trivial⟩;rw[decide_eq_false (p:=0<pi) (by omega)];rfl)|exact bN|skip
def AB{c:dX}(ok:iJ c)(h:dY c=0): TxC c:=by
 obtain⟨k1,k2,k3,k4,k5⟩:=qO h;obtain⟨p1,p2,p3,p4,p5⟩:=Ap k4;obtain⟨q1,q2,q3,q4,q5,q6,q7⟩:=ok;refine⟨fun hk=>VJ (CP (k1 hk)) (NJ q2),?_,q4,⟨by omega,fun v hv=>⟨aW.1 k5.2.2.2.2 v hv,(q5.2 v hv).1⟩⟩,q6,q7⟩;by_cases hk:c.kind=2\/c.kind=3
 ·have:=nh (k5.1 hk).1;omega
 ·rw[(p2.resolve_left hk).1];simp
def QB{ls:List aI}{m:Nat}(h:∀ s ∈ ls,s.length<=m): (ei ls).length<=ls.length*(m+1):=by
 induction ls with
 | nil=>simp[ei]
 | cons s l ih =>
   have e:ei (s::l)=s++(10::ei l):=by simp[ei]
   have:=ih (fun z hz=>h z (bF _ hz));have:=h s (List.mem_cons_self ..);rw[e,aA,List.length_cons,List.length_cons,bz];omega
def t_{l:List aI}{m:Nat}(h:∀ s ∈ l,s.length<=m): (cg l).length<=l.length*(m+1):=uS h
def VP{l:List aI}{m:Nat}(h:∀ s ∈ l,s.length<=m): (kN l).length<=l.length*(m+3):=uS h
def ab8{l:List eu}(h:∀ v ∈ l,bT v=true/\iE v.n): (pF l).length<=l.length*84:=by
 have:=uS (l:=l.map eN) (sep:=nL) (m:=82) (fun z hz=>by
  obtain⟨v,hv,rfl⟩:=cC.1 hz;exact xS v (h v hv).2.1 (h v hv).2.2 (h v hv).1)
 rw[bY]at this;exact this
def Kw{s:aI}{l:List eu}(h:∀ v ∈ l,bT v=true/\iE v.n): (iL s l).length<=s.length+1+l.length*84:=by
 have:=ab8 h;unfold iL;split
 ·omega
 ·simp;omega
def IW{n:Int}(h:iE n): (Lib.itoa n).length<=21:=Fi n h.1 h.2
def ab9{t:Table}(h:qQ t)(hg:∀ c ∈ t.outs,∀ v ∈ c.order,iE v.n): (ei (j5 t)).length<=2 ^ 20:=by
 obtain⟨l1,l2,l3⟩:=Fy h;have hn:=nh (jB h.frame).1;have hx:(j5 t).length<=38:=by simp[j5,eW];omega
 have key:∀ s ∈ j5 t,s.length<=5000:=by
  intro s hs;simp only[j5,eW,bD,List.mem_cons,List.mem_append,cC,List.not_mem_nil,or_false]at hs;rcases hs with rfl|((⟨c,hc,rfl⟩|⟨c,hc,rfl⟩)|⟨r,hr,rfl⟩)|rfl
  ·have := t_ (l := [zc, t.name, u_ t.aM, ve t.agg]) (m := 16) (fun z hz => by
    have:=Qw t.aM;have:=Qx t.agg;simp only[List.mem_cons,List.not_mem_nil,or_false]at hz;rcases hz with rfl|rfl|rfl|rfl<;>first|omega|decide)
   unfold kF;simp only[List.length_cons,List.length_nil]at this;omega
  ·have kH:=nh (x8 h hc).1
   have:=t_ (l:=[D_,c.name,lj c.kind]) (m:=16) (fun z hz=>by
    have:=zi c.kind;simp only[List.mem_cons,List.not_mem_nil,or_false]at hz;rcases hz with rfl|rfl|rfl<;>first|omega|decide)
   unfold pG;simp only[List.length_cons,List.length_nil]at this;omega
  ·obtain⟨a,b,d,e⟩:=s4 h hc;have kH:=nh a;have ho:=NI h hc
   have:=t_ (l:=[tW,c.name,lj c.kind]) (m:=16) (fun z hz=>by
    have:=zi c.kind;simp only[List.mem_cons,List.not_mem_nil,or_false]at hz;rcases hz with rfl|rfl|rfl<;>first|omega|decide)
   have hb:=Kw (s:=cg [tW,c.name,lj c.kind]) (l:=c.order) (fun v hv=>⟨e v hv,hg c hc v hv⟩);unfold ny;simp only[List.length_cons,List.length_nil]at this;omega
  ·obtain⟨a,b,_,_⟩:=Aw h hr;obtain⟨x,y⟩:=VI h hr;have h1:=VP x;have h2:=VP y
   have:=t_ (l:=[sY,kN r.cells,[58],kN r.outs]) (m:=1218) (fun z hz=>by
    simp only[List.mem_cons,List.not_mem_nil,or_false]at hz;rcases hz with rfl|rfl|rfl|rfl<;>first|omega|decide)
   unfold jg;simp only[List.length_cons,List.length_nil]at this;omega
  ·decide
 have:=QB key;have:=aX 5001 hx;omega
def FA{c:dX}(ok:iJ c)(h:dY c=0): (ei (dR c)).length<=2 ^ 28:=by
 have tx:=AB ok h;obtain⟨k1,k2,k3,k4,k5⟩:=qO h;obtain⟨q1,q2,q3,q4,q5,q6,q7⟩:=ok;have i1:=IW q4;have i2:=IW q6;have i3:=IW q7
 have one:∀ s:aI,s.length<=1000->(ei [s]).length<=2 ^ 28:=fun s hs=>by
  have:=QB (ls:=[s]) (m:=1000) (fun z hz=>by rw[bK.1 hz];exact hs);simp only[List.length_cons,List.length_nil]at this;omega
 have w3:∀ a b d:aI,a.length<=21->b.length<=21->d.length<=21->(cg [a,b,d]).length<=66:=fun a b d ha hb hd=>by
  have:=t_ (l:=[a,b,d]) (m:=21) (fun z hz=>by
   simp only[List.mem_cons,List.not_mem_nil,or_false]at hz;rcases hz with rfl|rfl|rfl<;>assumption)
  simpa using this
 have w2:∀ a b:aI,a.length<=21->b.length<=21->(cg [a,b]).length<=66:=fun a b ha hb=>by
  have:=t_ (l:=[a,b]) (m:=21) (fun z hz=>by
   simp only[List.mem_cons,List.not_mem_nil,or_false]at hz;rcases hz with rfl|rfl<;>assumption)
  simp only[List.length_cons,List.length_nil]at this;omega
 unfold dR;split
 ·rename_i hk;have:=ab9 (CP (k1 hk)) (NJ q2);omega
 split
 ·rename_i hk;have hn:=nh (k5.1 (.inl hk)).1;have hb:=Kw (s:=cg [jJ,c.name,Lib.itoa c.ver]) (l:=c.row) tx.row.2;have:=w3 jJ c.name (Lib.itoa c.ver) (by decide) (by omega) i1;have:=k5.2.2.2.1;exact one _ (by omega)
 split
 ·rename_i hk;have hn:=nh (k5.1 (.inr hk)).1;have:=w3 lg c.name (Lib.itoa c.ver) (by decide) (by omega) i1;exact one _ (by omega)
 split
 ·have:=w3 tX (Lib.itoa c.lz) (Lib.itoa c.nS) (by decide) i2 i3;exact one _ (by omega)
 split
 ·have:=w2 kz (Lib.itoa c.lz) (by decide) i2;exact one _ (by omega)
 ·refine one _ ?_;unfold nM;repeat' split
  all_goals decide
