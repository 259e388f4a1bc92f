/- The best plans; when all strikes can be set; the first that can't. Conditions: none. (And 10 texts more.) -/
import Derived.Test.YtjohlemgkcpoeaaGreatDoorR15
import Derived.Test.YtjohlemgkcpoeaaGreatDoorR09
import Derived.Test.YtjohlemgkcpoeaaGreatDoorR10
import Derived.Test.YtjohlemgkcpoeaaGreatDoorR13
set_option linter.unusedVariables false
set_option linter.unusedSimpArgs false
set_option linter.unusedSectionVars false
set_option maxRecDepth 100000
set_option maxHeartbeats 4000000

open Go.Proofs.Tryz
namespace Go.jc
theorem Iy{f:Int}:∀(m:Nat) (d:Int),(kL f d m).Nodup
 | 0,_=>.nil
 | m+1,d=>by
  rw[kL,List.nodup_cons];refine⟨fun h=>?_,Iy m (d+1)⟩;have:=(yK h).2.1;simp only at this;omega
theorem DV{s:St}:∀(m:Nat) (f:Int),(dJ s f m).Nodup
 | 0,_=>.nil
 | m+1,f=>by
  rw[dJ,List.nodup_append];refine⟨Iy _ _,DV m (f+1),fun a ha b hb e=>?_⟩;subst e;have h1:=(yK ha).1;have h2:=(uJ hb).1;omega
variable{E:TypeId}{F:ah}{M:oU}{Q:fO}{U:Obj->ah}{X b i kb kt t vt β:Nat}{a:List Int}{ds:List Deferred}{fs:List Fl}{h h':Hp}{k y:Operand}{m:List (List Int×Value)}{may:PY}{o:Obj}{p:List Be}{ss:List St}{v vp z:Value}{x:Cx}{zc:Array Value}{α:Type}{ρ:Env}
theorem JZ{k:Nat}:(bI fs ss may k).Nodup:=by
 rw[bI,List.nodup_append];refine⟨by split <;>simp,?_,fun a ha b hb e=>?_⟩
 ·split
  ·exact DV _ _
  exact .nil
 subst e;split at ha
 ·have:a=fZ:=by simpa using ha
  subst this;split at hb
  ·have:=(uJ hb).1;simp[fZ]at this
  cases hb
 cases ha
theorem Jb(aO:dV fs ss){m k:Nat}{q:List Be}{b:Be}(hk:k+1+m=ss.length)(hq:nY fs ss q)(hn:∀i,k<=i->dB q i=fZ)(hb:b∈bI fs ss may k)(h:p∈iD fs ss may m (k+1) (q.set k b)):dB p k=b:=by
 have QH:k<q.length:=by have:=aO.ns;have:=hq.ok.len;omega
 have:=((zO aO m (k+1) (q.set k b) p aj (pO hq aj (lV aO aj hb)) (fun i hi=>by rw[rE QH,if_neg aj];exact hn i aj)).1 h).2.1 k aj;rw[this,rE QH,if_pos O]
theorem EY{fs:List Fl}{ss:List St}{may:PY}(aO:dV fs ss):∀(m k:Nat) (q:List Be),k+m=ss.length->nY fs ss q->(∀i,k<=i->dB q i=fZ)->(iD fs ss may m k q).Nodup
 | 0,k,q,_,_,_=>by
  rw[iD];split <;>simp
 | m+1,k,q,hk,hq,hn=>by
  have QH:k<q.length:=by have:=aO.ns;have:=hq.ok.len;omega
  rw[iD,List.Nodup,List.pairwise_flatMap];refine⟨fun b hb=>?_,?_⟩
  ·split
   ·exact .nil
   exact EY aO m (k+1) _ aj (pO hq aj (lV aO aj hb)) (fun i hi=>by rw[rE QH,if_neg aj];exact hn i aj)
  refine(JZ (fs:=fs) (ss:=ss) (may:=may) (k:=k)).imp_of_mem fun{a b} ha hb hab x hx y hy e=>?_;subst e;split at hx
  ·cases hx
  split at hy
  ·cases hy
  exact hab ((Jb aO aj hq hn ha hx).symm.trans (Jb aO aj hq hn hb hy))
theorem adZ(aO:dV fs ss):(yL fs ss may).Nodup:=by
 unfold yL;split
 ·exact EY aO _ _ _ (by simp) (uM aO.nf.1) (fun i _=>DT i)
 rename_i hs;have aur:∀b,b∈bI fs ss may 0->∀i,1<=i->dB ((oC []).set 0 b) i=fZ:=fun b _ i hi=>by rw[rE dF,if_neg aj];exact DT i
 rw[List.Nodup,List.pairwise_flatMap];refine⟨fun b hb=>?_,?_⟩
 ·rw[dO,List.length_singleton,NC];exact EY aO _ _ _ aj (pO (uM aO.nf.1) aj (lV aO aj hb)) (aur b hb)
 refine(JZ (fs:=fs) (ss:=ss) (may:=may) (k:=0)).imp_of_mem fun{a b} ha hb hab x hx y hy e=>?_;subst e;rw[dO,List.length_singleton,NC]at hx hy;exact hab ((Jb aO aj (uM aO.nf.1) (fun i _=>DT i) ha hx).symm.trans (Jb aO aj (uM aO.nf.1) (fun i _=>DT i) hb hy))

theorem filter_none{l:List α}{f:α->Bool}(h:∀q∈l,f q=false):l.filter f=[]:=List.filter_eq_nil_iff.2 fun q hq=>by rw[h q hq];simp
structure abV(ss:List St)(l:List (List Be))(s:(Int×List (List Be))×List (List Be)):Prop where
 met:s.2=l
 top:l≠[]->(∃q∈l,mZ ss q=s.1.1)/\∀q∈l,mZ ss q<=s.1.1
 out:s.1.2=l.filter fun q=>decide (mZ ss q=s.1.1)
theorem abV.step{l:List (List Be)}{s:(Int×List (List Be))×List (List Be)}(H:abV ss l s)(hp:p∉l):abV ss (l++[p]) (Dv ss s p):=by
 obtain⟨⟨m,out⟩,met⟩:=s;obtain⟨h1,h2,h3⟩:=H;simp only at h1 h2 h3;subst h1;obtain⟨n,hn⟩:∃n,mZ ss p=n:=⟨_,rfl⟩
 simp only[Dv,if_neg hp,jC,hn]
 have hpf:∀c,[p].filter (fun q=>decide (mZ ss q=c))=if n=c then[p]else[]:=fun c=>by
  rw[List.filter_cons];simp[hn]
 rcases met with _ | ⟨q0,r0⟩
 ·have h0:out=[]:=h3;subst h0;simp only[true_or,if_true,List.nil_append];refine⟨O,fun _=>⟨⟨p,by simp,hn⟩,fun q hq=>?_⟩,by simp only;rw[hpf,if_pos O]⟩;have:q=p:=by simpa using hq
  subst this;simp only;omega
 obtain⟨⟨q1,hq1,hq2⟩,ag9⟩:=h2 (by simp)
 have iK:(q0::r0).filter (fun q=>decide (mZ ss q=m))≠[]:=fun e=>by
  have:=List.filter_eq_nil_iff.1 e q1 hq1;simp[hq2]at this
 rw[<-h3]at iK;generalize q0::r0=l at*;by_cases fK:m<n
 ·have hc:out=[]\/m<n:=.inr fK;simp only[if_pos hc,if_true,List.nil_append];refine⟨O,fun _=>⟨⟨p,by simp,hn⟩,fun q hq=>?_⟩,?_⟩
  ·rcases dh.1 hq with hq | hq
   ·have:=ag9 q hq;simp only;omega
   have:q=p:=by simpa using hq
   subst this;simp only;omega
  simp only;rw[List.filter_append,hpf,if_pos O,filter_none fun q hq=>?_]
  ·rfl
  have:=ag9 q hq;exact decide_eq_false aj
 have hc:¬(out=[]\/m<n):=not_or.2 ⟨iK,fK⟩;simp only[if_neg hc];by_cases he:n=m
 ·rw[if_pos he];refine⟨O,fun _=>⟨⟨p,by simp,hn.trans he⟩,fun q hq=>?_⟩,?_⟩
  ·rcases dh.1 hq with hq | hq
   ·exact ag9 q hq
   have:q=p:=by simpa using hq
   subst this;simp only;omega
  simp only;rw[List.filter_append,hpf,if_pos he,h3]
 rw[if_neg he];refine⟨O,fun _=>⟨⟨q1,by simp[hq1],hq2⟩,fun q hq=>?_⟩,?_⟩
 ·rcases dh.1 hq with hq | hq
  ·exact ag9 q hq
  have:q=p:=by simpa using hq
  subst this;simp only;omega
 simp only;rw[List.filter_append,hpf,if_neg he,List.append_nil,h3]
theorem abV.run{ss:List St}:∀(r l:List (List Be)) (s:(Int×List (List Be))×List (List Be)),abV ss l s->(l++r).Nodup->abV ss (l++r) (r.foldl (Dv ss) s)
 | [],l,s,h,_=>by rw[List.append_nil];exact h
 | p::r,l,s,h,uX=>by
  rw[List.foldl_cons,show l++p::r=(l++[p])++r by simp];refine abV.run r (l++[p]) _ (h.step fun hm=>?_) (by simpa using uX);exact(List.nodup_append.1 uX).2.2 p hm p (by simp) O
theorem XK(aO:dV fs ss):(∃q∈yL fs ss uK,mZ ss q=(lY fs ss).1)/\(∀q∈yL fs ss uK,mZ ss q<=(lY fs ss).1)/\(lY fs ss).2=(yL fs ss uK).filter fun q=>decide (mZ ss q=(lY fs ss).1):=by
 have h:=abV.run (ss:=ss) (yL fs ss uK) [] ((0,[]),[]) ⟨O,fun h=>absurd O h,O⟩ (adZ aO);rw[List.nil_append]at h;have iK:yL fs ss uK≠[]:=fun e=>by have:=ae2 aO;rw[e]at this;cases this
 exact⟨(h.top iK).1,(h.top iK).2,h.out⟩

def coG(ss:List St)(p:List Be)(i:Nat):Int:=if 0<=(dB p i).fl then(ru ss i).co else 0
theorem Lp{fs:List Fl}{ss:List St}{p:List Be}(aO:dV fs ss):∀k,k<=1000->wJ ss p k=DR (coG ss p) k/\0<=DR (coG ss p) k/\DR (coG ss p) k<=6*k
 | 0,_=>⟨rfl,Int.le_refl _,Int.le_refl _⟩
 | k+1,hk=>by
  obtain⟨h1,h2,h3⟩:=Lp (p:=p) aO k aj;have hc:=afv aO k;simp only[wJ,DR,coG];split
  ·rw[h1,Lm h2 aj hc.1 aj];exact⟨O,aj,aj⟩
  exact⟨aj,aj,aj⟩
theorem Lr(aO:dV fs ss):mZ ss p=DR (coG ss p) ss.length:=(Lp aO _ (by have:=aO.ns;omega)).1
theorem Qd{g g':Nat->Int}:∀{k:Nat},(∀i,i<k->g i<=g' i)->DR g' k<=DR g k->∀i,i<k->g i=g' i
 | 0,_,_,i,hi=>by omega
 | k+1,h,he,i,hi=>by
  have h1:=Zy (k:=k) fun i hi=>h i aj;have h2:=h k aj;simp only[DR]at he;by_cases e:i=k
  ·subst e;omega
  exact Qd (k:=k) (fun i hi=>h i aj) aj i aj

theorem ad1(aO:dV fs ss)(hv:Valid fs ss may p):nY fs ss p:=by
 have hb:∀i,-1<=(dB p i).fl/\(dB p i).fl<=1/\(dB p i).fl<fs.length/\0<=(dB p i).day/\(dB p i).day<=17:=fun i=>by
  rcases bQ i ss.length with h | h
  ·exact lV aO h (hv.at_ i h)
  rw[hv.out i h];simp[fZ];omega
 have hm:∀b∈p,∃i,b=dB p i:=fun b hb=>by
  obtain⟨i,hi,rfl⟩:=List.mem_iff_getElem.1 hb;exact⟨i,by simp[dB,List.getD,jh hi]⟩
 refine⟨⟨hv.len,fun b h=>?_⟩,fun b h=>?_,fun i hi=>by rw[hv.out i hi];simp[fZ]⟩
 ·obtain⟨i,rfl⟩:=hm b h;have:=hb i;omega
 obtain⟨i,rfl⟩:=hm b h;have:=hb i;omega
theorem Iz(aO:dV fs ss):lW fs ss may=true↔∃p,Valid fs ss may p/\xB fs ss p=none:=by
 have:lW fs ss may=true↔∃p,p∈dO fs ss may []:=by
  simp only[lW,Bool.not_eq_true',List.isEmpty_eq_false_iff_exists_mem]
 rw[this];exact exists_congr fun p=>N9 aO
theorem U6:Valid fs ss BR p↔Valid fs ss uK p/\∀i,i<ss.length->0<=(dB p i).fl:=by
 constructor
 ·rintro⟨h1,h2,h3⟩
  have hb:∀i,i<ss.length->0<=(dB p i).fl/\dB p i∈bI fs ss uK i:=fun i hi=>by
   have:=h2 i hi;rw[sF]at this⊢;simp only[BR,uK]at this⊢;simp at this⊢;exact⟨this.1,.inr this⟩
  exact⟨⟨h1,fun i hi=>(hb i hi).2,h3⟩,fun i hi=>(hb i hi).1⟩
 rintro⟨⟨h1,h2,h3⟩,h4⟩;refine⟨h1,fun i hi=>?_,h3⟩;have:=h2 i hi;have h5:=h4 i hi;rw[sF]at this⊢;simp only[BR,uK]at this⊢;simp at this⊢;rcases this with h | h
 ·rw[h]at h5;simp[fZ]at h5
 exact h
theorem afw{n:Nat}(hi:i<n):(p.take n)[i]? =p[i]? :=by
 rw[List.getElem?_take,if_pos hi]
theorem akg(zU:dU fs ss=0):(∀b∈(jF fs ss).1,0<=b.fl)↔lW fs ss BR=true:=by
 have aO:=wI zU;have hns:=aO.ns;obtain⟨-,ag9,al3⟩:=XK aO
 obtain⟨p,r,qw⟩:∃p r,(lY fs ss).2=p::r:=by
  cases h:(lY fs ss).2 with
  | nil=>exact absurd h (Ut aO)
  | cons p r=>exact⟨p,r,rfl⟩
 have hpm:p∈(lY fs ss).2:=qw▸bT ..;have hp:=hpm;rw[al3,List.mem_filter]at hp;obtain⟨hpa,OI⟩:=hp;have aqw:mZ ss p=(lY fs ss).1:=by simpa using OI
 obtain⟨hv,Gn⟩:=(abU aO).1 hpa;have hbB:(jF fs ss).1=p.take ss.length:=by simp only[jF];rw[if_neg (by simp[zU]),qw];rfl
 have nN:(∀b∈p.take ss.length,0<=b.fl)↔∀i,i<ss.length->0<=(dB p i).fl:=by
  constructor
  ·intro h i hi
   have e:p[i]? =some (dB p i):=by
    have:=hv.len;simp[dB,List.getD,jh (show i<p.length by omega)]
   exact h _ (dL ((afw hi).trans e))
  intro h b hb;obtain⟨i,hi⟩:=List.mem_iff_getElem?.1 hb
  have hi4:i<ss.length:=by
   rcases bQ i ss.length with h' | h'
   ·exact h'
   rw[fM (by simp;omega)]at hi;cases hi
  rw[afw hi4]at hi;have:=h i hi4;simpa[dB,List.getD,hi]using this
 rw[hbB,nN,Iz aO];constructor
 ·intro h;exact⟨p,U6.2 ⟨hv,h⟩,Gn⟩
 rintro⟨q,hq,hqi⟩;obtain⟨hqf,hqs⟩:=U6.1 hq;have hle:=ag9 q ((abU aO).2 ⟨hqf,hqi⟩);rw[<-aqw,Lr aO,Lr aO]at hle
 have hg:∀i,i<ss.length->coG ss p i=coG ss q i:=Qd (fun i hi=>by
  simp only[coG,if_pos (hqs i hi)];have:=(afv aO i).1;split <;>omega) hle
 intro i hi;have h1:=hg i hi;have h2:=aqQ aO hi;simp only[coG,if_pos (hqs i hi)]at h1;split at h1
 ·assumption
 omega
theorem IB:∀{ss:List St} {b:Int} (m:Nat),g_ b ss=0->g_ b (ss.take m)=0
 | [],b,m,_=>by simp[g_]
 | s::ss,b,0,_=>by simp[g_]
 | s::ss,b,m+1,h=>by
  simp only[List.take_succ_cons,g_]at h⊢;split at h
  ·rename_i hc;rw[if_pos hc];exact IB m h
  rename_i hc;exact absurd h hc
theorem ad2(h1:1<=fs.length)(h2:fs.length<=2)(h3:kV fs=0)(h4:ss.length<=4)(h5:g_ 0 ss=0):dU fs ss=0:=by
 unfold dU;rw[if_neg aj,if_neg aj,if_neg (by simp[h3]),if_neg aj,h5]
theorem yN(m:Nat)(h:dU fs ss=0):dU fs (ss.take m)=0:=by
 obtain⟨h1,h2,h3,h4,h5⟩:=Uf h;exact ad2 aj h2 h4 (by simp;omega) (IB m h5)

theorem ag_{ss':List St}(aO:dV fs ss)(U7:dV fs ss')(hp:Ak p)(h:∀i,i<4->0<=(dB p i).fl->(ru ss i).co=(ru ss' i).co):xB fs ss p=none↔xB fs ss' p=none:=by
 rw[Ph aO hp,Ph U7 hp]
 have hh:∀f d:Int,0<=f->adX fs ss p f d=adX fs ss' p f d:=fun f d hf=>EW fun i hi=>by
  simp only[hiG];by_cases hc:(dB p i).fl=f/\(dB p i).day<=d/\d<(dB p i).day+(jr fs f).hi
  ·rw[if_pos hc,if_pos hc];exact h i hi aj
  rw[if_neg hc,if_neg hc]
 have hb:∀f n:Int,0<=f->(Bad fs ss p f n↔Bad fs ss' p f n):=fun f n hf=>by
  simp only[Bad,Full,hh f n hf]
 constructor
 ·intro H f h0 h1 n hn;exact H f h0 h1 n ((hb f n h0).2 hn)
 intro H f h0 h1 n hn;exact H f h0 h1 n ((hb f n h0).1 hn)
theorem XL{m:Nat}(h:i<m):ru (ss.take m) i=ru ss i:=by
 simp only[ru,List.getD,List.getElem?_take,if_pos h]
theorem aha{m n:Nat}(zU:dU fs ss=0)(hn:n<m)(hm:m<=ss.length):lW fs (ss.take m) (jq n)=lW fs ss (jq n):=by
 have aO:=wI zU;have U7:=wI (yN m zU);have hl:(ss.take m).length=m:=by simp;omega
 have hb:∀i (b:Be),i<m->(b∈bI fs (ss.take m) (jq n) i↔b∈bI fs ss (jq n) i):=fun i b hi=>by
  rw[sF,sF,XL hi]
 have PW:∀i (b:Be),m<=i->(b∈bI fs ss (jq n) i↔b=fZ):=fun i b hi=>by
  rw[sF];have e1:(jq n i).1=false:=by simp[jq];omega
  have e2:(jq n i).2=true:=by simp[jq];omega
  rw[e1,e2];simp
 have hv:∀p,Valid fs (ss.take m) (jq n) p↔Valid fs ss (jq n) p:=fun p=>by
  constructor
  ·rintro⟨h1,h2,h3⟩;rw[hl]at h2 h3;refine⟨h1,fun i hi=>?_,fun i hi=>h3 i aj⟩;rcases bQ i m with h | h
   ·exact(hb i _ h).1 (h2 i h)
   exact(PW i _ h).2 (h3 i h)
  rintro⟨h1,h2,h3⟩;refine⟨h1,fun i hi=>?_,fun i hi=>?_⟩
  ·rw[hl]at hi;exact(hb i _ hi).2 (h2 i aj)
  rw[hl]at hi;rcases bQ i ss.length with h | h
  ·exact(PW i _ hi).1 (h2 i h)
  exact h3 i h
 have key:lW fs (ss.take m) (jq n)=true↔lW fs ss (jq n)=true:=by
  rw[Iz aO,Iz U7];refine exists_congr fun p=>?_;rw[hv p];refine and_congr_right fun hp=>ag_ U7 aO (ad1 aO hp).ok fun i hi hf=>?_;rcases bQ i m with h | h
  ·rw[XL h]
  have:=((hv p).2 hp).out i aj;rw[this]at hf;simp[fZ]at hf
 exact Bool.eq_iff_iff.2 key
theorem ad3{m:Nat}(zU:dU fs ss=0)(h0:0<m)(hm:m<=ss.length):lW fs (ss.take m) BR=lW fs ss (jq (m-1)):=by
 rw[<-aha (m:=m) zU aj hm];have U7:=wI (yN m zU);have hl:(ss.take m).length=m:=by simp;omega
 refine Bool.eq_iff_iff.2 ?_;rw[Iz U7,Iz U7];refine exists_congr fun p=>and_congr_left fun _=>?_
 have hb:∀i (b:Be),i<m->(b∈bI fs (ss.take m) BR i↔b∈bI fs (ss.take m) (jq (m-1)) i):=fun i b hi=>by
  rw[sF,sF];have e1:(jq (m-1) i).1=true:=by simp[jq];omega
  have e2:(jq (m-1) i).2=false:=by simp[jq];omega
  rw[e1,e2];simp[BR]
 constructor
 ·rintro⟨h1,h2,h3⟩;exact⟨h1,fun i hi=>(hb i _ aj).1 (h2 i hi),h3⟩
 rintro⟨h1,h2,h3⟩;exact⟨h1,fun i hi=>(hb i _ aj).2 (h2 i hi),h3⟩

theorem J3{fs:List Fl}{ss:List St}:∀(m n:Nat),(zJ fs ss m n= -1/\∀k,n<=k->k<n+m->lW fs ss (jq k)=true)\/∃r:Nat,n<=r/\r<n+m/\zJ fs ss m n=r/\lW fs ss (jq r)=false/\∀k,n<=k->k<r->lW fs ss (jq k)=true
 | 0,n=>.inl ⟨rfl,fun k h1 h2=>by omega⟩
 | m+1,n=>by
  rw[zJ]
  cases hs:lW fs ss (jq n)with
  | false=>
   rw[if_neg (by simp)];exact .inr ⟨n,Nat.le_refl _,aj,O,hs,fun k h1 h2=>by omega⟩
  | true=>
   rw[if_pos O];rcases J3 (fs:=fs) (ss:=ss) m (n+1)with⟨h1,h2⟩ | ⟨r,h1,h2,h3,h4,h5⟩
   ·refine .inl ⟨h1,fun k k1 k2=>?_⟩;by_cases e:k=n
    ·subst e;exact hs
    exact h2 k aj aj
   refine .inr ⟨r,aj,aj,h3,h4,fun k k1 k2=>?_⟩;by_cases e:k=n
   ·subst e;exact hs
   exact h5 k aj k2
theorem Pj(fs:List Fl)(ss:List St):(xC fs ss= -1/\∀k,k<ss.length->lW fs ss (jq k)=true)\/∃r:Nat,r<ss.length/\xC fs ss=r/\lW fs ss (jq r)=false/\∀k,k<r->lW fs ss (jq k)=true:=by
 rcases J3 (fs:=fs) (ss:=ss) ss.length 0 with⟨h1,h2⟩ | ⟨r,h1,h2,h3,h4,h5⟩
 ·exact .inl ⟨h1,fun k hk=>h2 k (Nat.zero_le _) aj⟩
 exact .inr ⟨r,aj,h3,h4,fun k hk=>h5 k (Nat.zero_le _) hk⟩
theorem am8{r:Nat}(hr:r<ss.length)(hf:lW fs ss (jq r)=false)(ha:∀k,k<r->lW fs ss (jq k)=true):xC fs ss=r:=by
 rcases Pj fs ss with⟨h1,h2⟩ | ⟨r',h1,h2,h3,h4⟩
 ·rw[h2 r hr]at hf;cases hf
 rcases Nat.lt_trichotomy r r' with h | h | h
 ·rw[h4 r h]at hf;cases hf
 ·subst h;exact h2
 rw[ha r' h]at h3;cases h3
theorem akh(ha:∀k,k<ss.length->lW fs ss (jq k)=true):xC fs ss= -1:=by
 rcases Pj fs ss with⟨h1,h2⟩ | ⟨r',h1,h2,h3,h4⟩
 ·exact h1
 rw[ha r' h1]at h3;cases h3
theorem U9(zU:dU fs ss=0):jF fs ss=((jF fs ss).1,(lY fs ss).1,0)/\(jF fs ss).1.length=ss.length:=by
 have aO:=wI zU;have hns:=aO.ns;have e:jF fs ss=(((lY fs ss).2.headD []).take ss.length,(lY fs ss).1,0):=by simp only[jF];rw[if_neg (by simp[zU])]
 refine⟨by rw[e],?_⟩;rw[e]
 obtain⟨p,r,qw⟩:∃p r,(lY fs ss).2=p::r:=by
  cases h:(lY fs ss).2 with
  | nil=>exact absurd h (Ut aO)
  | cons p r=>exact⟨p,r,rfl⟩
 have uN:p.length=4:=aja (Xo (qw▸bT ..));rw[qw];simp[uN];omega
theorem aA.freeze{ops:Array Oper}{l:List Nat}(ho:opn o=false)(H:∀h',Ext x.h h'->h' b=some o->h'.z b->aA {x with h:=h'} ops l Q ρ ds F):aA x ops l Q ρ ds ((b,o)::F):=by
 intro fr k cs Stop tmps hk M h1 h0 h2 h3 h4 h5 hc;obtain⟨S,e,hl⟩:=h5.freeze ho;have hb:=(h5.own b o (bT ..)).2.2;refine J4.zk Stop.2.2 _ _ _ _ hl (H _ e (IY _ _ _) (.inl O) fr k cs Stop tmps hk _ h1 h0 h2 h3 h4 S fun ex gW iT F' bC fA M' q a1 a2 a3 a4=>hc ex gW iT F' bC fA M' q a1 a2 (a3.thaw hb ho) fun c' hm hF=>?_);have iK:c'≠b:=by rintro rfl;exact hF o (bT ..)
 exact a4 c' ⟨hm,iK⟩ fun o' mM=>hF o' (dH _ mM)
theorem aA.eY{ops:Array Oper}{td:List Nat}{A:ah}{row:α->List Value}{w:Nat}[Rw row w]{l:List α}(hs:Os E row v l A)
  (H:∀h',Ext x.h h'->Sl h' row v l->Zs h' v->aA {x with h:=h'} ops td Q ρ ds F):aA x ops td Q ρ ds (A++F):=by
 rcases hs with⟨rfl,rfl,yu⟩ | ⟨β,cc,cap,J,rfl,rfl,h1,h2,h3,yu⟩
 ·exact aA.sb (Sb.left .refl yu) (H x.h ⟨fun _ _ q=>q,fun _ q=>q⟩ .nil (fun b off n cap e=>by cases e))
 refine aA.freeze (b:=β) O fun h' hE hb hz=>?_;refine aA.sb (F':=F) (Sb.left .refl yu) (H h' hE (.mk hb rfl h3) (fun b off n cap e=>by cases e;exact hz))
theorem ahb(main:aN)(h:Hp)(l:List Int)(n:Int)(v:Value)(hf:Sl h bY v l)(hl:l.length<=1000):Pu aV main KH #[v,I n] h (I (Iu (fun x=>decide (n=x)) l 0)):=by
 obtain⟨a,cap,rfl⟩:=hf.aU;refine bG.bH func77 [(0,.slice a l.length cap),(1,I n)] ?_;refine oz ?_;refine W.loop (σ:=Nat) (fun k=>k<=l.length/\Iu (fun x=>decide (n=x)) l 0=Iu (fun x=>decide (n=x)) (l.drop k) k) (fun k=>[(8,I k),(7,I l.length),(0,.slice a l.length cap),(1,I n)]) (fun _=>[]) (fun k=>l.length-k) 0 ⟨Nat.zero_le _,O⟩ iw .refl ?_;rintro k ⟨hk,hd⟩;refine kJ ?_;refine W.aJ O (fun c9=>?_) (fun c9=>?_)
 ·obtain⟨x,hp,yI⟩:=has (show k<l.length by omega);rw[yI,Iu]at hd;obtain⟨b,off,c,E,fz,rfl,hb,hx,hy,hz⟩:=hf.at hp;have Aq:c[off+k*1]? =some (I x):=hz 0 dF;clear hx hz;refine asX ?_;refine W.aJ O (fun PV=>?_) (fun PV=>?_)
  ·refine iC ?_;rw[if_pos (decide_eq_true PV)]at hd;refine lQ ?_;show I _=I _;rw[hd]
  refine jk ?_;rw[if_neg (by simpa using PV)]at hd;exact⟨O,k+1,⟨aj,hd⟩,aj,iw,qE⟩
 obtain rfl:k=l.length:=by omega
 refine gZ ?_;refine lQ ?_;show I _=I _;first | (rw[hd];done) | (rw[hd];simp[Iu])
theorem aki{l:List Int}{n:Int}:∀{k:Nat},n∈l->∃j:Nat,Iu (fun x=>decide (n=x)) l k=((k+j:Nat):Int)/\l[j]? =some n:=by
 induction l with
 | nil=>intro k h;cases h
 | cons a l ih=>
  intro k h;rw[Iu];by_cases e:n=a
  ·subst e;exact⟨0,by simp,O⟩
  rw[if_neg (by simpa using e)];obtain⟨j,h1,h2⟩:=ih (k:=k+1) (by rcases bU.1 h with h | h;exact absurd h e;exact h);exact⟨j+1,by rw[h1];congr 1;omega,by simpa using h2⟩
def Ls(M:oU)(i:Nat):Be:=if Gj M i then
  (
   let b:=((jF M.fs (stM M)).1).getD (Iu (fun x=>decide ((i:Int)=x)) (nZ M) 0).toNat fZ
   if b.fl<0 then fZ else b)else fZ
def uQ(M:oU):List Be:=(List.range M.l.length).map (Ls M)
theorem akj(hi:i<M.l.length)(h:Gj M i=true):(i:Int)∈nZ M:=by
 refine(pI _ _).symm.subset ?_;simp only[zs,QL,List.mem_map,List.mem_filter,List.mem_range];exact⟨i,⟨hi,h⟩,O⟩
theorem oU.At.ckP(H:M.At h):dU M.fs (stM M)=0:=by
 have hfk:=H.fk;have hol:=Rt (M:=M);have hn4:=H.n4;have P7:(stM M).length=(nZ M).length:=by simp[stM]
 unfold dU at hfk⊢;split at hfk
 ·cases hfk
 split at hfk
 ·cases hfk
 split at hfk
 ·rename_i h1 h2 h3;exact absurd hfk h3
 rename_i h1 h2 h3;rw[if_neg h1,if_neg h2,if_neg h3,if_neg aj];have hs:Srt (Ll M) (nZ M):=XH
 have key:∀(l:List Int) (b:Int),(∀a∈l,a∈nZ M)->Srt (Ll M) l->(∀a∈l,b<=Ll M a)->g_ b (l.map (stI M))=0:=by
  intro l
  induction l with
  | nil=>intros;rfl
  | cons a l ih=>
   intro b hm hs hb;obtain⟨i,p,w,rfl,hi,hp,hw⟩:=Rq (hm a (bT ..));obtain⟨hd,hd1,hd2⟩:=H.day hp hw;have uU:=H.ok p (dL hp);have hc:=uU.co;have hwa:=uU.wa;have hb0:=hb _ (bT ..);rw[hd]at hb0
   have e1:kW b (stI M i)=0:=by
    rw[H.Zx hp hw];unfold kW;rw[if_neg (by simp only[outs];omega),if_neg (by simp only;omega)]
   rw[dQ,g_,if_pos e1];have e2:(stI M i).day=Ll M i:=by rw[H.Zx hp hw,hd]
   rw[e2];exact ih _ (fun x hx=>hm x (dH _ hx)) (List.pairwise_cons.1 hs).2 (fun x hx=>(List.pairwise_cons.1 hs).1 x hx)
 refine key _ 0 (fun a ha=>ha) hs fun a ha=>?_;obtain⟨i,p,w,rfl,hi,hp,hw⟩:=Rq ha;obtain⟨hd,hd1,hd2⟩:=H.day hp hw;rw[hd];exact hd1

theorem Pm{l:List uV}{p:uV}(h:l[i]? =some p):(p.B,Obj.cells (Ap p.kv p.x.d p.x.co p.x.wa p.x.qu 1 0 p.v) dX (0,0))∈bM l:=(N7 h).subset (jm _ (dP.2 O))
theorem ad4{k:Nat}(h:k<M.l.length):(uQ M).take (k+1)=(uQ M).take k++[Ls M k]:=by
 rw[List.take_add_one,uQ,iL,List.getElem?_range h];rfl
theorem afx(h:Gj M i=false):Ls M i=fZ:=by unfold Ls;rw[h];rfl
theorem am9{j:Nat}{b:Be}(h:Gj M i=true)(hj:Iu (fun x=>decide ((i:Int)=x)) (nZ M) 0=(j:Int))(hb:(jF M.fs (stM M)).1[j]? =some b):Ls M i=if b.fl<0 then fZ else b:=by
 unfold Ls;rw[if_pos h,hj,Int.toNat_natCast,List.getD_eq_getElem?_getD,hb];rfl

theorem afy{main:aN}(hS:∀S,main.ok S->∃Fin,S=Mn aV Fin)(qJ:main.b=true)(h:Hp)(M:oU)(H:M.At h):bG aV main M_ #[aG M.X] h (bM M.l) (fun v F=>∃vb S,v= .tuple #[vb,I (jF M.fs (stM M)).2.1]/\Os ku Be.row vb (uQ M) S/\Sb (S++bM M.l) F):=by
 have hP:=r_.of hS qJ;obtain⟨Eg,zg,hg⟩:=H.g0;obtain⟨EX,zX,hX⟩:=H.cx;unfold oU.C at hX;have Oj:=H.vp;have hn4:=H.n4;have hol:=Rt (M:=M);have hbo:=U9 H.ckP;have P7:(stM M).length=(nZ M).length:=by simp[stM]
 obtain⟨av,cv',ev'⟩:=Oj.aU;rw[List.length_map]at ev';rw[ev']at Oj hX;refine bG.bH func49 [(0,aG M.X)] ?_;refine kR ?_;refine cg (A:=bM M.l) .all (fun h' hE hL=>N8 hP h' M (H.ext hE)) (fun v A' hv=>?_);obtain⟨vs,S,vo,S2,rfl,hO,Ci,bF⟩:=hv;obtain⟨av1,cv1,rfl⟩:=hO.aU;obtain⟨a2,c2,rfl⟩:=Ci.aU;obtain⟨af,cf,ef⟩:=H.fl.aU;rw[ef];refine aA.sb bF ?_;refine gI ?_;refine aA.new (fun mW=>?_);refine lg ?_;refine aA.sb (F':=S++((mW,.cells #[.slice af M.fs.length cf,.slice av1 (stM M).length cv1] j_ (0,0))::(S2++bM M.l))) (.aT List.perm_middle) ?_;refine aA.eY hO (fun h1 zD ahc Gq=>?_);refine c0 (fun h' hE hL=>Zf main hS qJ h' M.fs (stM M) _ _ Eg zg (ef▸(H.fl.ext zD).ext hE) (ahc.ext hE) (ef▸(H.zf.ext zD).ext hE) (Gq.ext hE) (hE.1 _ _ (zD.1 _ _ hg)) (hE.2 _ (zD.2 _ H.z0))) (fun v A' hv=>?_);obtain⟨vb,SB,rfl,hOB,pJ⟩:=hv;obtain⟨ab,cb,rfl⟩:=hOB.aU;refine aA.sb (F':=SB++(S2++bM M.l)) (pJ.app (.skip O .refl)) ?_;refine oz ?_;refine eY hOB (fun hx hEx akl hzB=>?_);refine eY Ci (fun hy hEy ax6 hzO=>?_);replace hX:=hEy.1 _ _ (hEx.1 _ _ hX);replace Oj:=(Oj.ext hEx).ext hEy;replace akl:=akl.ext hEy;refine iC ?_;refine W.loop (σ:=Nat×Value×ah) (fun s=>s.1<=M.l.length/\Os ku Be.row s.2.1 ((uQ M).take s.1) s.2.2) (fun s=>[(29,I s.1),(28,I M.l.length),(27,.slice av M.l.length cv'),(5,.slice a2 (nZ M).length c2),(6,.slice ab (jF M.fs (stM M)).1.length cb),(7,I (jF M.fs (stM M)).2.1),(9,s.2.1)]) (fun s=>s.2.2++bM M.l) (fun s=>M.l.length-s.1) (0,.slice none 0 0,[]) ⟨Nat.zero_le _,.nil .nil⟩ iw .refl ?_;rintro⟨k,v,S⟩ ⟨hk,hOk⟩;simp only at hk hOk⊢;have OI:((uQ M).take k).length=k:=by simp[uQ];omega
 refine kJ ?_;refine W.aJ O (fun c30=>?_) (fun c30=>?_)
 ·have zI:k<M.l.length:=by omega
  obtain⟨p,hp,yI⟩:=has zI;obtain⟨b,off,c,E,fz,rfl,hb,hx,hyy,hz⟩:=Oj.at (show(M.l.map (·.B))[k]? =some p.B by rw[iL,hp];rfl);have Aq:c[off+k*1]? =some (aG p.B):=hz 0 dF;clear hx hz;obtain⟨sv,cv,rfl⟩:=hOk.aU;have fP:=H.st p (dL hp);have hic:Gj M k=(M.w p.x).isSome:=by unfold Gj;rw[hp]
  have hmm:=Pm hp;have htk:=ad4 (M:=M) zI;refine Qv ?_;refine cp (fun h' hE hL=>ahb _ h' (nZ M) k _ (ax6.ext hE) aj) ?_;refine Qu ?_;refine b_ (CG O O (.inr fun _ e=>by subst e;exact bZ _ hmm) O) O ?_;refine ccl fP ?_;refine gI ?_;refine W.cond O (fun c37=>?_) (fun c37=>?_)
  ·have xJ:Gj M k=false:=by rw[hic];simpa using c37
   rw[afx xJ]at htk;refine FT ?_;refine b_ (dw (cs:= #[I (-1),I 0]) O O aB) O ?_;refine aA.zZ (cs:= #[I (-1),I 0]) (fun aqS=>?_) O (hf:=by kernel_rfl);refine oe O wn O O (bV (row:=Be.row) (l':=[fZ]) O O O hOk (.tail .head) (fun h2 _ hl=>Sl.mk (hl aqS _ (.head _)) O (Part.all (Be.row fZ))) (by simp;omega) dF O (fun v' S' xM=>?_));refine zW rfl rfl rfl<|qj<|W.exit<|AP<|sG<|CB<|iE<|fH<|W.region rfl ?_;refine gI ?_;exact⟨O,(k+1,v',S'),⟨by simp only;omega,by simp only;rw[htk];exact xM⟩,by simp only;omega,iw,.skip O .refl⟩
  have Lh:Gj M k=true:=by rw[hic];simpa using c37
  obtain⟨j,hj1,hj2⟩:=aki (k:=0) (akj zI Lh);rw[Nat.zero_add]at hj1
  have hjl:j<(nZ M).length:=by
   rcases bQ j (nZ M).length with h' | h'
   ·exact h'
   rw[fM h']at hj2;cases hj2
  have FQ:(jF M.fs (stM M)).1.length=(nZ M).length:=by rw[hbo.2,P7]
  obtain⟨be,hbe,-⟩:=has (show j<(jF M.fs (stM M)).1.length by omega);obtain⟨bb,ob,cbb,Eb,fb,rfl,hbb,hxb,hyb,hzb⟩:=akl.at hbe;have hb0:cbb[ob+j*2]? =some (I be.fl):=hzb 0 dF;have ax7:cbb.extract (ob+j*2) (ob+j*2+2)= #[I be.fl,I be.day]:=hxb;clear hxb hzb;rw[am9 Lh hj1 hbe]at htk;rw[hj1];refine oz ?_;refine W.aJ O (fun c44=>?_) (fun c44=>?_)
  ·rw[if_pos c44]at htk;refine W.exit<|sG<|AP<|CB<|fH<|W.seq<|W.region rfl<|aiH rfl rfl rfl ?_;refine b_ (dw (cs:= #[I (-1),I 0]) O O aB) O ?_;refine aA.zZ (cs:= #[I (-1),I 0]) (fun aqS=>?_) O (hf:=by kernel_rfl);refine oe O wn O O (bV (row:=Be.row) (l':=[fZ]) O O O hOk (.tail .head) (fun h2 _ hl=>Sl.mk (hl aqS _ (.head _)) O (Part.all (Be.row fZ))) (by simp;omega) dF O (fun v' S' xM=>?_));refine zW rfl rfl rfl<|qj<|W.exit<|AP<|sG<|CB<|iE<|fH<|W.region rfl ?_;refine gI ?_;exact⟨O,(k+1,v',S'),⟨by simp only;omega,by simp only;rw[htk];exact xM⟩,by simp only;omega,iw,.skip O .refl⟩
  rw[if_neg c44]at htk;refine W.skip<|fH<|W.exit<|AP<|AP<|sG<|CB<|fH<|W.seq<|W.region rfl ?_;refine kJ ?_;refine aA.zZ (cs:= #[I be.fl,I be.day]) (fun ax9=>?_) O (hf:=by kernel_rfl);refine oe O wn O O (bV (row:=Be.row) (l':=[be]) O O O hOk (.tail .head) (fun h2 _ hl=>Sl.mk (hl ax9 _ (.head _)) O (Part.all (Be.row be))) (by simp;omega) dF O (fun v' S' xM=>?_));refine gZ ?_;exact⟨O,(k+1,v',S'),⟨by simp only;omega,by simp only;rw[htk];exact xM⟩,by simp only;omega,iw,.skip O .refl⟩
 obtain rfl:k=M.l.length:=by omega
 rw[show(uQ M).take M.l.length=uQ M from List.take_of_length_le (by simp[uQ])]at hOk;refine CW ?_;exact iQ (vs:=[_,_]) ⟨_,S,O,hOk,.refl⟩

def O0(M:oU)(k:Nat):List Nat:=(List.range k).filter fun i=>decide (0<=(Ls M i).fl)
def mV(M:oU):List Int:=zs (O0 M M.l.length)
theorem aoA{main:aN}(hS:∀S,main.ok S->∃Fin,S=Mn aV Fin)(qJ:main.b=true)(h:Hp)(M:oU)(H:M.At h):bG aV main OM #[aG M.X] h (bM M.l) (fun v F=>∃S,Os aX bY v (mV M) S/\Sb (S++bM M.l) F):=by
 have hn4:=H.n4;refine bG.bH func50 [(0,aG M.X)] ?_;have OI:(uQ M).length=M.l.length:=by simp[uQ]
 refine iC ?_;refine cg (A:=bM M.l) .all (fun h' hE hL=>afy hS qJ h' M (H.ext hE)) (fun v A' hv=>?_);obtain⟨vb,SB,rfl,hOB,bF⟩:=hv;obtain⟨ab,cb,rfl⟩:=hOB.aU;rw[OI]at hOB⊢;refine aA.sb bF ?_;refine lg ?_;refine eY hOB (fun hx hEx akl hzB=>?_);refine kR ?_;refine W.loop (σ:=Nat×Value×ah) (fun s=>s.1<=M.l.length/\Os aX bY s.2.1 (zs (O0 M s.1)) s.2.2) (fun s=>[(15,I s.1),(14,I M.l.length),(13,.slice ab M.l.length cb),(3,s.2.1)]) (fun s=>s.2.2++bM M.l) (fun s=>M.l.length-s.1) (0,.slice none 0 0,[]) ⟨Nat.zero_le _,.nil .nil⟩ iw .refl ?_;rintro⟨k,v,S⟩ ⟨hk,hO⟩;simp only at hk hO⊢;have hlen:(O0 M k).length<=k:=Nat.le_trans (List.length_filter_le ..) (by simp);refine kJ ?_;refine W.aJ O (fun PV=>?_) (fun PV=>?_)
 ·have zI:k<M.l.length:=by omega
  obtain⟨bb,ob,cbb,Eb,fb,rfl,hbb,hxb,hyb,hzb⟩:=akl.at (show(uQ M)[k]? =some (Ls M k) by rw[uQ,iL,List.getElem?_range zI];rfl);have ax7:cbb.extract (ob+k*2) (ob+k*2+2)= #[I (Ls M k).fl,I (Ls M k).day]:=hxb;clear hxb hzb;obtain⟨sv,cv,rfl⟩:=hO.aU
  have Gt:O0 M (k+1)=if 0<=(Ls M k).fl then O0 M k++[k]else O0 M k:=by
   unfold O0;rw[List.range_succ,List.filter_append];by_cases hc:0<=(Ls M k).fl <;>simp[hc]
  refine FT ?_;refine aA.new (fun yc=>?_);refine FT ?_;refine W.aJ O (fun c22=>?_) (fun c22=>?_)
  ·rw[if_pos c22]at Gt;refine gI ?_;refine aA.zZ (cs:= #[I k]) (fun ax_=>?_) O;refine oe O wn O O (bV (row:=bY) (l':=[(k:Int)]) O O O hO (.tail (.tail .head)) (fun h2 _ hl=>Sl.mk (hl ax_ _ (.head _)) O (Part.all [I k])) (by rw[rZ];simp;omega) dF O (fun v' S' xM=>?_));refine zW rfl rfl rfl<|aA.nil<|iE<|fH<|W.region rfl ?_;refine gI ?_;exact⟨O,(k+1,v',S'),⟨by simp only;omega,by simp only;rw[Gt,Zh];exact xM⟩,by simp only;omega,iw,.skip O (.skip O .refl)⟩
  rw[if_neg c22]at Gt;refine jk ?_;exact⟨O,(k+1,_,S),⟨by simp only;omega,by simp only;rw[Gt];exact hO⟩,by simp only;omega,iw,.skip O .refl⟩
 obtain rfl:k=M.l.length:=by omega
 refine iC ?_;exact iQ (vs:=[_]) ⟨S,hO,.refl⟩
def jG(k:List Int):Value:=.agg (k.map nI).toArray
def Wp(m:List (List Int×Value)):List MapEntry:=m.zipIdx.map fun p=>{key:=jG p.1.1,val:=p.1.2,born:=p.2}
abbrev N_(m:List (List Int×Value)):Obj:=.map (Wp m).toArray m.length
theorem ahd{k:List Int}:Wp (m++[(k,v)])=Wp m++[{key:=jG k,val:=v,born:=m.length}]:=by
 simp[Wp,List.zipIdx_append]
section
variable{P:Program}{h:Hp}{F:ah}{β:Type}{Q:β->ah->Prop}{t w:Nat}
theorem Qe[k:KV P t w]{f:Option (Nat×Value)->Sem β}{a:List Int}(h1:a.length=w):∀{m:List (List Int×Value)} {l:List MapEntry} {i:Nat},(∀b∈m,b.1.length=w)->l.map (·.key)=m.map (fun p=>jG p.1)->a∉m.map (·.1)->
  tr P h ((Instr.findAsking t (jG a) l i).bind f) F Q=tr P h (f none) F Q
 | [],l,i,hw,hm,ha=>by
  have:l=[]:=by simpa using hm
  subst this;simp only[Instr.findAsking,au,bind_pure]
 | b::m,[],i,hw,hm,ha=>by cases hm
 | b::m,e::l,i,hw,hm,ha=>by
  simp only[dQ,List.cons.injEq]at hm;obtain⟨hk,hm⟩:=hm;have:=k.eq;have hab:a≠b.1:=fun h=>ha (by rw[h];simp);have fA:e.key= .agg (b.1.map nI).toArray:=hk;simp only[Instr.findAsking,bind_eq,au,bind_assoc,fA,jG,Ik h1 (hw b (bT ..)),hab,decide_false,eU,if_false];exact Qe h1 (fun c hc=>hw c (dH _ hc)) hm fun h=>ha (by simp[h])
theorem abW[k:KV P t w]{f:Option (Nat×Value)->Sem β}(h1:a.length=w){l:List MapEntry}(hw:∀b∈m,b.1.length=w)(hm:l.map (·.key)=m.map (fun p=>jG p.1))(ha:a∉m.map (·.1)):
  tr P h ((Instr.findKey t (jG a) l).bind f) F Q=tr P h (f none) F Q:=by
 obtain⟨d,hd,hda⟩:=k.ag;have:TD P t d:=⟨hd⟩
 simp only[Instr.findKey,bind_eq,au,bind_assoc,aF]
 cases l with
 | nil=>simp only[Instr.findNow,bind_pure]
 | cons e l=>
  have hn:Instr.findNow d (jG a) (e::l) 0=none:=by
   have:Instr.sameNow d (jG a) e.key=none:=by
    rcases hda with⟨fs,rfl⟩ | ⟨n,el,rfl⟩ <;>rfl
   simp only[Instr.findNow,this]
  simp only[hn];exact Qe h1 hw hm ha
end
section rules
variable{x:Cx}{ρ:Env}{F:ah}{S:ah->Prop}{o:Oper}{R:Value->ah->Prop}
theorem akm{w:Nat}{v:Operand}{u:Value}(ho:o.op= .mapUpdate t y k v)[TD x.P t (.map kt vt)][KV x.P kt w](hy:ev ρ y=some (.map (some β)))(hk:ev ρ k=some (jG a))(hv:ev ρ v=some u)(h1:a.length=w)(hw:∀b∈m,b.1.length=w)(ha:a∉m.map (·.1))(hl:At β (N_ m) F U)
  (H:R undef (U (N_ (m++[(a,u)])))):Ef x ρ o F R:=
 Ef.uY fun e he h' hE=>by
  obtain⟨F1,F2,e1,e2⟩:=hl.split
  have hm:(Wp m).map (·.key)=m.map (fun p=>jG p.1):=by
   rw[Wp,List.map_map]
   have:∀(l:List (List Int×Value)) (n:Nat),(l.zipIdx n).map ((fun e:MapEntry=>e.key)∘fun p:(List Int×Value)×Nat=>{key:=jG p.1.1,val:=p.1.2,born:=p.2:MapEntry})=l.map fun p=>jG p.1:=fun l=>by
    induction l with
    | nil=>intro n;rfl
    | cons a l ih=>intro n;rw[List.zipIdx_cons,dQ,ih];rfl
   exact this m 0
  simp only[execOp,ho,he y _ hy,he k _ hk,he v _ hv,Instr.mapUpdate,bind_eq,au,bind_assoc,bind_pure,aF];refine⟨N_ m,.inr (by rw[e1];simp),(fun _ _ _=>by simp),O,?_⟩;simp only[au,bind_pure,bind_assoc];have e0:jG a= .agg (a.map nI).toArray:=rfl;rw[e0,Bg h1,<-e0,abW h1 hw hm ha];refine⟨N_ m,F1,F2,e1,(fun _ _ _=>by simp),O,?_⟩;rw[e2]at H;refine⟨_,.inr ⟨O,O⟩,?_⟩;have e3:(Wp m).toArray.push {key:=jG a,val:=u,born:=m.length}=(Wp (m++[(a,u)])).toArray:=by rw[ahd];simp
  rw[e3,show m.length+1=(m++[(a,u)]).length by simp];exact H
end rules
def yj(k:List Int):List (List Int×Value)->Nat->Option (Nat×Value)
 | [],_=>none
 | a::ks,i=>if k=a.1 then some (i,a.2)else yj k ks (i+1)
theorem Qg{k:List Int}:∀{m:List (List Int×Value)} {i:Nat} {r:Nat×Value},yj k m i=some r->(k,r.2)∈m
 | [],_,_,h=>by cases h
 | a::m,i,r,h=>by
  simp only[yj]at h;split at h
  ·rename_i e
   cases h
   subst e;exact bT ..
  exact dH _ (Qg h)
theorem Qh{k:List Int}:∀{m:List (List Int×Value)} {i:Nat},yj k m i=none->k∉m.map (·.1)
 | [],_,_=>by simp
 | a::m,i,h=>by
  simp only[yj]at h;split at h
  ·cases h
  rename_i e;have:=Qh h;simp only[dQ,bU,not_or];exact⟨e,this⟩
section
variable{P:Program}{h:Hp}{F:ah}{β:Type}{Q:β->ah->Prop}{t w:Nat}
theorem Qi[k:KV P t w]{f:Option (Nat×Value)->Sem β}{a:List Int}(h1:a.length=w):∀{m:List (List Int×Value)} {l:List MapEntry} {i:Nat},(∀b∈m,b.1.length=w)->l.map (fun e=>(e.key,e.val))=m.map (fun p=>(jG p.1,p.2))->
  tr P h ((Instr.findAsking t (jG a) l i).bind f) F Q=tr P h (f (yj a m i)) F Q
 | [],l,i,hw,hm=>by
  have:l=[]:=by simpa using hm
  subst this;simp only[Instr.findAsking,au,bind_pure,yj]
 | b::m,[],i,hw,hm=>by cases hm
 | b::m,e::l,i,hw,hm=>by
  simp only[dQ,List.cons.injEq,Prod.mk.injEq]at hm;obtain⟨⟨hk,hv⟩,hm⟩:=hm;have:=k.eq;have fA:e.key= .agg (b.1.map nI).toArray:=hk;simp only[Instr.findAsking,bind_eq,au,bind_assoc,fA,jG,Ik h1 (hw b (bT ..))];by_cases hab:a=b.1
  ·simp only[hab,decide_true,if_true,bind_pure,yj,hv]
  simp only[hab,decide_false,eU,if_false,yj];exact Qi h1 (fun c hc=>hw c (dH _ hc)) hm
theorem abX[k:KV P t w]{f:Option (Nat×Value)->Sem β}(h1:a.length=w){l:List MapEntry}(hw:∀b∈m,b.1.length=w)(hm:l.map (fun e=>(e.key,e.val))=m.map (fun p=>(jG p.1,p.2))):
  tr P h ((Instr.findKey t (jG a) l).bind f) F Q=tr P h (f (yj a m 0)) F Q:=by
 obtain⟨d,hd,hda⟩:=k.ag;have:TD P t d:=⟨hd⟩
 simp only[Instr.findKey,bind_eq,au,bind_assoc,aF]
 cases l with
 | nil=>
  have:m=[]:=by simpa using hm.symm
  subst this;simp only[Instr.findNow,bind_pure,yj]
 | cons e l=>
  have hn:Instr.findNow d (jG a) (e::l) 0=none:=by
   have:Instr.sameNow d (jG a) e.key=none:=by
    rcases hda with⟨fs,rfl⟩ | ⟨n,el,rfl⟩ <;>rfl
   simp only[Instr.findNow,this]
  simp only[hn];exact Qi h1 hw hm
end
theorem ana:(Wp m).map (fun e=>(e.key,e.val))=m.map (fun p=>(jG p.1,p.2)):=by
 rw[Wp,List.map_map]
 have:∀(l:List (List Int×Value)) (n:Nat),(l.zipIdx n).map ((fun e:MapEntry=>(e.key,e.val))∘fun p:(List Int×Value)×Nat=>{key:=jG p.1.1,val:=p.1.2,born:=p.2:MapEntry})=l.map fun p=>(jG p.1,p.2):=fun l=>by
  induction l with
  | nil=>intro n;rfl
  | cons a l ih=>intro n;rw[List.zipIdx_cons,dQ,ih];rfl
 exact this m 0
section rules
variable{x:Cx}{ρ:Env}{F:ah}{S:ah->Prop}{o:Oper}{R:Value->ah->Prop}
theorem anb{w s:Nat}(ho:o.op= .lookup t y k true)[TD x.P t (.map kt vt)][KV x.P kt w][TI x.P vt s b z zc](hy:ev ρ y=some (.map (some β)))(hk:ev ρ k=some (jG a))(h1:a.length=w)(hw:∀b∈m,b.1.length=w)(hl:At β (N_ m) F U)
  (Hy:∀v,(a,v)∈m->R (.tuple #[v,.bool true]) F) (Hn:a∉m.map (·.1)->R (.tuple #[z,.bool false]) F):Ef x ρ o F R:=
 Ef.uY fun e he h' hE=>by
  obtain⟨F1,F2,e1,e2⟩:=hl.split;simp only[execOp,ho,he y _ hy,he k _ hk,Instr.lookup,bind_eq,au,bind_assoc,bind_pure,aF,if_true];refine⟨N_ m,.inr (by rw[e1];simp),(fun _ _ _=>by simp),O,?_⟩;simp only[au,bind_pure,bind_assoc];have e0:jG a= .agg (a.map nI).toArray:=rfl;rw[e0,Bg h1,<-e0,abX h1 hw ana]
  cases hf:yj a m 0 with
  | none=>
   simp only[bind_assoc];rw[jQ (P:=x.P) (t:=vt)];simp only[bind_pure];exact⟨_,.inl O,Hn (Qh hf)⟩
  | some r=>
   obtain⟨i,v⟩:=r;simp only[bind_pure];exact⟨_,.inl O,Hy v (Qg hf)⟩
end rules
def QM(ss:List St):List St:=ss++List.replicate (4-ss.length) ⟨0,0,0⟩
def Gl(ss:List St):List Int:=(QM ss).flatMap fun s=>[s.day,s.co,s.wa]
def akn:List Int:=List.replicate 12 0
theorem U_{l:List α}(h:l.length<=4):l=[]\/(∃a,l=[a])\/(∃a b,l=[a,b])\/(∃a b c,l=[a,b,c])\/∃a b c d,l=[a,b,c,d]:=by
 match l,h with
 | [],_=>exact .inl rfl
 | [a],_=>exact .inr (.inl ⟨a,rfl⟩)
 | [a,b],_=>exact .inr (.inr (.inl ⟨a,b,rfl⟩))
 | [a,b,c],_=>exact .inr (.inr (.inr (.inl ⟨a,b,c,rfl⟩)))
 | [a,b,c,d],_=>exact .inr (.inr (.inr (.inr ⟨a,b,c,d,rfl⟩)))
 | a::b::c::d::e::r,h=>simp at h
theorem DW(h:ss.length<=4):(Gl ss).length=12:=by
 rcases U_ h with rfl | ⟨a,rfl⟩ | ⟨a,b,rfl⟩ | ⟨a,b,c,rfl⟩ | ⟨a,b,c,d,rfl⟩ <;>rfl
theorem ako(h:ss.length<=4):gQ #[I 0,I 0,I 0,I 0,I 0,I 0,I 0,I 0,I 0,I 0,I 0,I 0] 0 (flat St.row ss)=((Gl ss).map nI).toArray:=by
 rcases U_ h with rfl | ⟨a,rfl⟩ | ⟨a,b,rfl⟩ | ⟨a,b,c,rfl⟩ | ⟨a,b,c,d,rfl⟩ <;>simp[Gl,QM,flat,gQ,St.row,List.replicate]
theorem Va{tt:List St}(h:ss.length<=4)(h':tt.length<=4)(hs:∀s∈ss,1<=s.co)(ht:∀s∈tt,1<=s.co)(e:Gl ss=Gl tt):ss=tt:=by
 have key:∀{ss:List St},ss.length<=4->(∀s∈ss,1<=s.co)->(QM ss).filter (fun s=>decide (1<=s.co))=ss:=by
  intro ss h hs;unfold QM;rw[List.filter_append,List.filter_eq_self.2 (fun s h=>decide_eq_true (hs s h)),List.filter_eq_nil_iff.2,List.append_nil];intro s h;rw[(List.mem_replicate.1 h).2];decide
 have e2:QM ss=QM tt:=by
  have l1:(QM ss).length=4:=by simp[QM];omega
  have l2:(QM tt).length=4:=by simp[QM];omega
  revert e;unfold Gl;generalize QM ss=p at l1;generalize QM tt=q at l2;intro e
  match p,q,l1,l2 with
  | [⟨a1,a2,a3⟩,⟨b1,b2,b3⟩,⟨c1,c2,c3⟩,⟨d1,d2,d3⟩],[⟨x1,x2,x3⟩,⟨y1,y2,y3⟩,⟨z1,z2,z3⟩,⟨w1,w2,w3⟩],_,_=>
   simp only[List.flatMap_cons,List.flatMap_nil,List.cons_append,List.nil_append,List.cons.injEq,and_true]at e;obtain⟨rfl,rfl,rfl,rfl,rfl,rfl,rfl,rfl,rfl,rfl,rfl,rfl⟩:=e
   rfl
 rw[<-key h hs,<-key h' ht,e2]
theorem ahe(h:ss.length<=4)(hs:∀s∈ss,1<=s.co)(e:Gl ss=akn):ss=[]:=
 Va h (Nat.zero_le _) hs (fun s h=>by cases h) e
instance:NS aV jE:=⟨aB,aB⟩
theorem abY:Rj aV jE 12 3:=Rj.array (n:=4) (w:=3) (K:=2) Ur.at
instance:EV aV jE 12:=⟨abY.le dF⟩
theorem ad5:Xk aV pG 3 2:=by
 refine Xk.struct (ws:=[1,1,1]) (K:=1) ?_;exact(KZ.cons dF O ckI (KZ.cons dF O ckI (KZ.cons dF O ckI KZ.nil)))
theorem abZ:Xk aV jE 12 3:=Xk.array (n:=4) (w:=3) (K:=2) ad5.at
instance:KV aV jE 12:=⟨inferInstance,abZ.le dF,_,TD.out,.inr ⟨_,_,O⟩⟩

def IC(fs:List Fl)(m:List (List Int×Value)):Prop:=∀p∈m,∃ss,ss.length<=4/\(∀s∈ss,1<=s.co)/\p=(Gl ss,I (jF fs ss).2.1)
theorem IC.len(H:IC fs m):∀b∈m,b.1.length=12:=fun b hb=>by
 obtain⟨ss,h,-,rfl⟩:=H b hb;exact DW h
def pX(kb mb:Nat)(m:List (List Int×Value)):ah:=[(kb,.cells #[.int .i32 0,.int .u32 0,.map (some mb)] iH (0,0)),(mb,N_ m)]
theorem anc{o:Oper}{R:Value->ah->Prop}{w s:Nat}(ho:o.op= .lookup t y k true)[TD x.P t (.map kt vt)][KV x.P kt w][TI x.P vt s b z zc](hy:ev ρ y=some (.map (some β)))(hk:ev ρ k=some (jG a))(h1:a.length=w)(hw:∀b∈m,b.1.length=w)(hl:At β (N_ m) F U)
  (H:∀v c,(c=true->(a,v)∈m)->(c=false->v=z/\a∉m.map (·.1))->R (.tuple #[v,.bool c]) F):Ef x ρ o F R:=
 anb ho hy hk h1 hw hl (fun v hv=>H v true (fun _=>hv) (fun h=>by cases h)) (fun hn=>H z false (fun h=>by cases h) (fun _=>⟨rfl,hn⟩))
def FI(M:oU):Int:=if stM M=[]then 0 else(jF M.fs (stM M)).2.1
theorem oU.At.co(H:M.At h):∀s∈stM M,1<=s.co:=by
 intro s hs;obtain⟨a,ha,rfl⟩:=List.mem_map.1 hs;obtain⟨i,p,w,rfl,hi,hp,hw⟩:=Rq ha;rw[H.Zx hp hw];exact(H.ok p (dL hp)).co.1

theorem ab1{main:aN}(hS:∀S,main.ok S->∃Fin,S=Mn aV Fin)(qJ:main.b=true)(h:Hp)(M:oU)(H:M.At h)(mb:Nat)(m:List (List Int×Value))(hm:IC M.fs m):
  bG aV main qF #[aG M.X] h (pX M.kb mb m++bM M.l) (fun v F=>v=I (FI M)/\∃m',IC M.fs m'/\Sb (pX M.kb mb m'++bM M.l) F):=by
 have hP:=r_.of hS qJ;obtain⟨Eg,zg,hg⟩:=H.g0;obtain⟨EX,zX,hX⟩:=H.cx;unfold oU.C at hX;have hn4:=H.n4;have hol:=Rt (M:=M);have P7:(stM M).length=(nZ M).length:=by simp[stM]
 have hs4:(stM M).length<=4:=by omega
 obtain⟨af,cf,ef⟩:=H.fl.aU;refine bG.bH func36 [(0,aG M.X)] ?_;unfold pX;refine jk ?_;refine cg (A:=bM M.l) (.tail (.tail .all)) (fun h' hE hL=>N8 hP h' M (H.ext hE)) (fun v A' hv=>?_);obtain⟨vs,S,vo,S2,rfl,hO,Ci,bF⟩:=hv;obtain⟨av1,cv1,rfl⟩:=hO.aU;obtain⟨a2,c2,rfl⟩:=Ci.aU;rw[ef];refine aA.sb (.cons (.cons (.trans (.app .refl (.left .refl Ci.shut)) bF))) ?_;refine gI ?_;refine aA.new (fun nP=>?_);refine gI ?_;refine W.sb (F':=S++((nP,.cells #[.slice af M.fs.length cf,.slice av1 (stM M).length cv1] j_ (0,0))::(M.kb,.cells #[.int .i32 0,.int .u32 0,.map (some mb)] iH (0,0))::(mb,N_ m)::bM M.l)) (.aT (show List.Perm (S++([_,_,_]++bM M.l)) ([_,_,_]++(S++bM M.l))from by rw[<-eF,<-eF];exact dK.append_right _)) ?_;refine eY hO (fun h1 zD ahc Gq=>?_);replace hX:=zD.1 _ _ hX;refine d_ ?_;refine aA.new (fun iI=>?_);refine d_ ?_;refine W.jS (n:=4) O ?_;refine fJ 0 (TN O O) O ?_;refine ay 1 ?_;refine ay 2 ?_;refine ae (i:=3) O an O O (adb (row:=St.row) (n:=4) O O O ahc hs4 .head (by simp;omega) ?_);refine⟨.inl aB,?_⟩;refine az ?_;refine d_ ?_;have hkp:=ako hs4;rw[show(gQ _ 0 (flat St.row (stM M)))=((Gl (stM M)).map nI).toArray from hkp];clear hkp;have ane:0+12<=((Gl (stM M)).map nI).toArray.size:=by simp[DW hs4]
 have hex:((Gl (stM M)).map nI).toArray.extract 0 (0+12)=((Gl (stM M)).map nI).toArray:=by
  apply Array.ext';simp;exact List.take_of_length_le (by simp[DW hs4])
 generalize Jf:((Gl (stM M)).map nI).toArray=KC at ane hex⊢;refine jk ?_;refine cg (A:=[(M.kb,.cells #[.int .i32 0,.int .u32 0,.map (some mb)] iH (0,0))]) (.tail (.tail (.head (G:=_::_)))) (fun h' hE hL=>abE (off:=0) hP O) (fun v A' hv=>?_);obtain⟨o',rfl,rfl,rfl⟩:=hv;refine FT ?_;refine owd (vs:=[.pointer (some ⟨M.kb,0,none⟩)]) O O O ?_;refine lF ?_;refine b_ (II (vs:=KC) O O (.inr (fun _ e=>by subst e;exact .head _)) ane hex) O ?_;refine b_ (aiM O) O ?_;refine b_ (ai5 (Gl (stM M)) akn O O O (by rw[<-Jf]) O (DW hs4) O) O ?_;refine qj ?_;refine W.cond O (fun EL=>?_) (fun EL=>?_)
 ·have ahX:stM M=[]:=ahe hs4 H.co (by simpa using EL);refine lg ?_;refine qp (A:=[(M.kb,.cells (#[.int .i32 0,.int .u32 0,.map (some mb)].setIfInBounds 0 (.int .i32 1)) iH (0,0))]) (.tail (.tail (.head (G:=_::_)))) (fun h' hE hL=>sW (off:=0) hP O) (fun A2 hA2=>?_);obtain⟨o',rfl,rfl⟩:=hA2;refine iQ (vs:=[I 0]) ⟨?_,m,hm,.cons (.skip O (.skip O .refl))⟩;show I 0=_;rw[FI,if_pos ahX]
 have hnn:stM M≠[]:=fun e=>by rw[e]at EL;revert EL;decide
 have hlm:FI M=(jF M.fs (stM M)).2.1:=by rw[FI,if_neg hnn]
 refine gI ?_;refine W.kQ [(iI,.cells KC jE (0,0)),(M.kb,.cells #[.int .i32 1,.int .u32 0,.map (some mb)] iH (0,0))] (n:=14) O ?_;refine ay 0 ?_;refine ay 1 ?_;refine ay 2 ?_;refine ay 3 ?_;refine ay 4 ?_;refine ay 5 ?_;refine ay 6 ?_;refine fJ 7 (II (vs:=KC) O O (.inr fun F hF=>hF _ (.head _)) ane hex) O ?_;refine ae (i:=8) O an O O (anc (a:=Gl (stM M)) (m:=m) O O (by rw[<-Jf];rfl) (DW hs4) hm.len (.tail (.tail (.tail .head))) (fun u fd hfy hfn=>?_));refine⟨.inr (by repeat(first | exact aC.nil | refine aC.one zS ?_)),?_⟩;refine ay 9 ?_;refine ay 10 ?_;refine ay 11 ?_;refine ay 12 ?_;refine ay 13 ?_;refine az ?_;refine jk ?_;refine W.cond O (fun c46=>?_) (fun c46=>?_)
 ·obtain⟨rfl,hnk⟩:=hfn (by simpa using c46);refine gI ?_;refine c0 (fun h' hE hL=>Zf main hS qJ h' M.fs (stM M) _ _ Eg zg (ef▸(H.fl.ext zD).ext hE) (ahc.ext hE) (ef▸(H.zf.ext zD).ext hE) (Gq.ext hE) (hE.1 _ _ (zD.1 _ _ hg)) (hE.2 _ (zD.2 _ H.z0))) (fun v A' hv=>?_);obtain⟨vb,SB,rfl,hOB,pJ⟩:=hv;refine aA.sb (F':=(iI,.cells KC jE (0,0))::(nP,.cells #[.slice af M.fs.length cf,.slice av1 (stM M).length cv1] j_ (0,0))::(M.kb,.cells #[.int .i32 1,.int .u32 0,.map (some mb)] iH (0,0))::(mb,N_ m)::bM M.l) ((Sb.trans (.nil hOB.shut) pJ).app .refl) ?_;refine lg ?_;refine W.kQ [(iI,.cells KC jE (0,0)),(M.kb,.cells #[.int .i32 1,.int .u32 0,.map (some mb)] iH (0,0))] (n:=10) O ?_;refine ay 0 ?_;refine ay 1 ?_;refine ay 2 ?_;refine ay 3 ?_;refine ay 4 ?_;refine ay 5 ?_;refine ay 6 ?_;refine fJ 7 (II (vs:=KC) O O (.inr fun F hF=>hF _ (.head _)) ane hex) O ?_;refine ay 8 ?_;refine ae (i:=9) O an O O (akm (a:=Gl (stM M)) (m:=m) O O (by rw[<-Jf];rfl) O (DW hs4) hm.len hnk (.tail (.tail (.tail .head))) ?_);refine⟨.inl aB,?_⟩;refine az ?_;refine jk ?_
  first
  | (
    refine qp (A:=[(M.kb,.cells #[.int .i32 1,.int .u32 0,.map (some mb)] iH (0,0))]) (.tail (.tail (.head (G:=(mb,N_ (m++[(Gl (stM M),I (jF M.fs (stM M)).2.1)]))::bM M.l)))) (fun h' hE hL=>sW (off:=0) hP O) (fun A2 hA2=>?_);obtain⟨o',rfl,rfl⟩:=hA2;refine iQ (vs:=[_]) ⟨by rw[hlm];rfl,_,?_,.cons (.skip O (.skip O .refl))⟩;intro p hp;rcases dh.1 hp with hp | hp
    ·exact hm p hp
    exact⟨stM M,hs4,H.co,dP.1 hp⟩)
  | (
    obtain⟨ss,h1',h2',h3'⟩:=hm _ (hfy (by simpa using c46));simp only[Prod.mk.injEq]at h3';obtain⟨e1,rfl⟩:=h3';obtain rfl:=Va hs4 h1' H.co h2' e1;refine qp (A:=[(M.kb,.cells #[.int .i32 1,.int .u32 0,.map (some mb)] iH (0,0))]) (.tail (.tail (.head (G:=(mb,N_ m)::bM M.l)))) (fun h' hE hL=>sW (off:=0) hP O) (fun A2 hA2=>?_);obtain⟨o',rfl,rfl⟩:=hA2;exact iQ (vs:=[_]) ⟨by rw[hlm];rfl,m,hm,.cons (.skip O (.skip O .refl))⟩)
 refine kR ?_
 first
 | (
   refine qp (A:=[(M.kb,.cells #[.int .i32 1,.int .u32 0,.map (some mb)] iH (0,0))]) (.tail (.tail (.head (G:=(mb,N_ (m++[(Gl (stM M),I (jF M.fs (stM M)).2.1)]))::bM M.l)))) (fun h' hE hL=>sW (off:=0) hP O) (fun A2 hA2=>?_);obtain⟨o',rfl,rfl⟩:=hA2;refine iQ (vs:=[_]) ⟨by rw[hlm];rfl,_,?_,.cons (.skip O (.skip O .refl))⟩;intro p hp;rcases dh.1 hp with hp | hp
   ·exact hm p hp
   exact⟨stM M,hs4,H.co,dP.1 hp⟩)
 | (
   obtain⟨ss,h1',h2',h3'⟩:=hm _ (hfy (by simpa using c46));simp only[Prod.mk.injEq]at h3';obtain⟨e1,rfl⟩:=h3';obtain rfl:=Va hs4 h1' H.co h2' e1;refine qp (A:=[(M.kb,.cells #[.int .i32 1,.int .u32 0,.map (some mb)] iH (0,0))]) (.tail (.tail (.head (G:=(mb,N_ m)::bM M.l)))) (fun h' hE hL=>sW (off:=0) hP O) (fun A2 hA2=>?_);obtain⟨o',rfl,rfl⟩:=hA2;exact iQ (vs:=[_]) ⟨by rw[hlm];rfl,m,hm,.cons (.skip O (.skip O .refl))⟩)
theorem EZ(main:aN)(h:Hp)(n lo hi:Int)(hn:¬outs n lo hi):Pu aV main Qx #[I n,I lo,I hi] h (.bool false):=by
 refine bG.bH func59 [(0,I n),(1,I lo),(2,I hi)] ?_;simp only[outs]at hn;refine gZ ?_;refine aA.ask (fun YW=>?_) (fun YW=>?_)
 ·refine jk ?_;refine lQ ?_
  first | exact absurd (Or.inl ‹_›) hn | exact congrArg Value.bool (decide_eq_false fun h=>hn (.inr h))
 refine jk ?_;refine lQ ?_
 first | exact absurd (Or.inl ‹_›) hn | exact congrArg Value.bool (decide_eq_false fun h=>hn (.inr h))
structure yD where
 (va nS vr vf vm:Value) (ps:Int) (gs:List Ag) (Vj:List Pn) (rs:List Int) (fs:List Fl) (jJ:List (Value×Mt))
abbrev yD.V(D:yD):Value:=.agg #[D.va,I D.ps,D.nS,D.vr,D.vf,D.vm]
structure yD.At(D:yD)(h:Hp):Prop where
 ga:Sl h Ag.row D.va D.gs
 za:Zs h D.va
 gk:JC D.gs=0
 pk:0<=D.ps/\D.ps<=63
 pn:Sl h Pn.row D.nS D.Vj
 rr:Sl h bY D.vr D.rs
 sk:jP D.Vj [] D.rs=0
 ff:Sl h Fl.row D.vf D.fs
 zf:Zs h D.vf
 fk:dU D.fs []=0
 mm:Sl h yM D.vm D.jJ
 me:∀p∈D.jJ,Sl h bY p.1 p.2.ks/\Zs h p.1/\EU p.2
 m4:D.jJ.length<=4
 g0:∃E z,h 0=some (.cells #[QI kC] E z)
 z0:h.z 0
variable{D:yD}
theorem yD.At.ext(H:D.At h)(hE:Ext h h'):D.At h':=
 ⟨H.ga.ext hE,H.za.ext hE,H.gk,H.pk,H.pn.ext hE,H.rr.ext hE,H.sk,H.ff.ext hE,H.zf.ext hE,H.fk,H.mm.ext hE,fun p hp=>⟨(H.me p hp).1.ext hE,(H.me p hp).2.1.ext hE,(H.me p hp).2.2⟩,H.m4,H.g0.imp fun _ ⟨z,e⟩=>⟨z,hE.1 _ _ e⟩,hE.2 _ H.z0⟩

theorem Zz(main:aN)(h:Hp)(kv:Value)(x:Mt)(hf:Sl h bY kv x.ks)(H:EU x):Pu aV main Nb #[.agg #[kv,I x.d,I x.co,I x.wa,I x.qu]] h (I 0):=by
 obtain⟨a,cap,rfl⟩:=hf.aU;have h1:=H.k1;have h3:=H.k3;refine bG.bH func84 [(0,.agg #[.slice a x.ks.length cap,I x.d,I x.co,I x.wa,I x.qu])] ?_;refine d_ ?_;refine aA.box (fun vg=>?_);refine asW ?_;refine W.aJ O (fun c9=>?_) (fun c9=>?_)
 ·exact absurd c9 aj
 refine lg ?_;refine W.aJ O (fun OZ=>?_) (fun OZ=>?_)
 ·exact absurd OZ aj
 refine oz ?_;refine W.loop (σ:=Nat) (fun k=>k<=x.ks.length) (fun k=>[(18,I k),(17,I x.ks.length),(16,.slice a x.ks.length cap),(1,aG vg)]) (fun _=>[(vg,.cells #[.slice a x.ks.length cap,I x.d,I x.co,I x.wa,I x.qu] kD (0,0))]) (fun k=>x.ks.length-k) 0 (Nat.zero_le _) iw .refl ?_;rintro k hk;refine kJ ?_;refine W.aJ O (fun BO=>?_) (fun BO=>?_)
 ·have zI:k<x.ks.length:=by omega
  obtain⟨p,hp,yI⟩:=has zI;obtain⟨b,off,c,E,fz,rfl,hb,hx,hy,hz⟩:=hf.at hp;have Aq:c[off+k*1]? =some (I p):=hz 0 dF;have aut:=H.ks p (dL hp);clear hx hz;refine Qv ?_;refine cp (fun h' hE hL=>EZ _ h' p 0 63 (by simp only[outs];omega)) ?_;refine qj ?_;refine W.iq ?_;refine jk ?_;refine aA.ask (fun auu=>?_) (fun auu=>?_)
  ·skip
   refine lF ?_;have hk0:0<k:=by omega
   obtain⟨q,hq,-⟩:=has (show k-1<x.ks.length by omega);obtain⟨b9,auv,c9',E9,fz9,e9,hb9,hx9,hy9,hz9⟩:=hf.at hq
   cases e9
   rw[hb]at hb9
   cases hb9
   have aAA:c[off+(k-1)*1]? =some (I q):=hz9 0 dF
   have hqp:q<p:=by
    have:=List.pairwise_iff_getElem.1 H.up (k-1) k aj zI aj;rw[jh aj,dY]at hq hp;rwa[hq,hp]at this
   refine oq (Yv.eq (Vr O O O) (show I _=I ((k-1:Nat):Int) by congr 1;omega)) O (aI O O O) O O ?_
   first | refine kw_ (yix rfl rfl rfl) rfl ?_ | refine kw_ (ZX rfl rfl rfl) rfl ?_
   refine lF ?_;refine W.aJ O (fun c36=>?_) (fun c36=>?_)
   ·exact absurd c36 aj
   refine jk ?_;exact⟨O,k+1,zI,aj,iw,.refl⟩
  refine gZ ?_;refine W.iq ?_;refine jk ?_;exact⟨O,k+1,zI,aj,iw,.refl⟩
 refine gZ ?_;refine cp (fun h' hE hL=>EZ _ h' x.d 0 7 (by have:=H.d;simp only[outs];omega)) ?_;refine gI ?_;refine cp (fun h' hE hL=>EZ _ h' x.co 1 6 (by have:=H.co;simp only[outs];omega)) ?_;refine lF ?_;refine cp (fun h' hE hL=>EZ _ h' x.wa 0 3 (by have:=H.wa;simp only[outs];omega)) ?_;refine lF ?_;refine cp (fun h' hE hL=>EZ _ h' x.qu 0 12 (by have:=H.qu;simp only[outs];omega)) ?_;refine d_ ?_;refine W.iq ?_;refine jk ?_;exact lQ O
theorem Wq(main:aN)(h:Hp)(D:yD)(H:D.At h):Pu aV main KI #[D.V] h .nilIface:=by
 obtain⟨a1,c1,e1⟩:=H.ga.aU;obtain⟨a2,c2,e2⟩:=H.pn.aU;obtain⟨a3,c3,e3⟩:=H.rr.aU;obtain⟨a4,c4,e4⟩:=H.ff.aU;refine bG.bH func83 [(0,D.V)] ?_;refine d_ ?_;refine aA.box (fun vg=>?_);refine jk ?_;refine cp (fun h' hE hL=>show Pu aV main H7 #[D.va] h' (I 0)from H.gk▸Xx _ h' D.gs D.va (H.ga.ext hE)) ?_;refine jk ?_;refine W.aJ O (fun OZ=>?_) (fun OZ=>?_)
 ·exact absurd O OZ
 refine jk ?_;refine cp (fun h' hE hL=>EZ _ h' D.ps 0 63 (by have:=H.pk;simp only[outs];omega)) ?_;refine qj ?_;refine W.iq ?_;refine FT ?_;refine c0 (fun h' hE hL=>abv _ h' D.Vj [] D.rs D.nS _ D.vr (H.pn.ext hE) .nil (H.rr.ext hE)) (fun v A' hv=>?_);obtain⟨sl,SS,rfl,hOS,aqT⟩:=hv;have hse:(sD D.Vj [] D.rs).2.2=0:=by unfold sD;rw[if_neg (by rw[H.sk];decide)]
 rw[hse];refine aA.sb (F':=[(vg,.cells #[D.va,I D.ps,D.nS,D.vr,D.vf,D.vm] fC (0,0))]) ((Sb.trans (.nil hOS.shut) aqT).app .refl) ?_;refine CW ?_;refine W.aJ O (fun c31=>?_) (fun c31=>?_)
 ·exact absurd O c31
 refine lF ?_;rw[e4];refine gI ?_;refine b_ (dw (cs:= #[.slice a4 D.fs.length c4,.slice none 0 0]) O O aB) O ?_;refine cp (fun h' hE hL=>show Pu aV main JO #[.agg #[.slice a4 D.fs.length c4,.slice none 0 0]] h' (I 0)from H.fk▸Ue _ h' D.fs [] _ _ (e4▸H.ff.ext hE) .nil) ?_;refine jk ?_;refine W.aJ O (fun c40=>?_) (fun c40=>?_)
 ·exact absurd O c40
 refine jk ?_;exact lQ O
theorem ahf(main:aN)(h:Hp)(D:yD)(H:D.At h):Pu aV main VN #[D.V] h (I 0):=by
 obtain⟨am,cm,em⟩:=H.mm.aU;have h4:=H.m4;have hmm:=H.mm;rw[em]at hmm;refine bG.bH func58 [(0,D.V)] ?_;unfold yD.V;refine d_ ?_;refine aA.box (fun vg=>?_);refine lF ?_;refine aA.new (fun nP=>?_);refine kJ ?_;refine cp (fun h' hE hL=>Wq _ h' D (H.ext hE)) ?_;refine zT ?_;refine cp (fun h' hE hL=>aaX _ h' _) ?_;refine qj ?_;refine W.iq ?_;refine lF ?_;rw[em];refine lg ?_;refine W.aJ O (fun PV=>?_) (fun PV=>?_)
 ·exact absurd PV aj
 refine iC ?_;refine W.loop (σ:=Nat) (fun k=>k<=D.jJ.length) (fun k=>[(20,I k),(19,I D.jJ.length),(18,.slice am D.jJ.length cm)]) (fun _=>[]) (fun k=>D.jJ.length-k) 0 (Nat.zero_le _) iw (by repeat(first | exact .refl | refine .skip rfl ?_)) ?_;rintro k hk;refine kJ ?_;refine W.aJ O (fun Oh=>?_) (fun Oh=>?_)
 ·have zI:k<D.jJ.length:=by omega
  obtain⟨⟨kv,x⟩,hp,yI⟩:=has zI;obtain⟨Tf,zks,uU⟩:=H.me _ (dL hp);obtain⟨b,off,c,E,fz,rfl,hb,hx,hy,hz⟩:=hmm.at hp;have okv:=Tf.one;rw[Iw okv]at hx;have Aq:c.extract (off+k*5) (off+k*5+5)= #[kv,I x.d,I x.co,I x.wa,I x.qu]:=hx;clear hx hz;refine kR ?_;refine aA.new (fun iI=>?_);refine aA.Yi (vs:= #[kv,I x.d,I x.co,I x.wa,I x.qu]) ?_ (h1:=by show(one kv&&true)=true;rw[okv];rfl);refine lF ?_;refine cp (fun h' hE hL=>Zz _ h' kv x (Tf.ext hE) uU) ?_;refine jk ?_;refine W.aJ O (fun ZH=>?_) (fun ZH=>?_)
  ·exact absurd O ZH
  refine jk ?_;exact⟨rfl,k+1,zI,aj,iw,by repeat(first | exact .refl | refine .skip rfl ?_)⟩
 refine gZ ?_;exact lQ O

def oU.of(D:yD)(X kb:Nat)(vp:Value)(l:List uV):oU:=⟨X,D.va,D.nS,D.vr,D.vf,D.vm,vp,D.ps,kb,D.gs,l,D.fs⟩
theorem yD.At.Ws(H:D.At h)(hE:Ext h h'){l:List uV}{z:Nat×Nat}(hX:h' X=some (.cells (mG D.va D.nS D.vr D.vf D.vm vp D.ps kb) E z))(Oj:Sl h' abJ vp (l.map (·.B)))(hl:l.map (fun p=>(p.kv,p.x))=D.jJ)(fP:∀p∈l,XG (nH D.gs p.x.ks D.ps) p.x.d p.v p.E):(oU.of D X kb vp l).At h':=by
 have Xz:l.length=D.jJ.length:=by rw[<-hl];simp
 exact⟨⟨E,z,hX⟩,Oj,fP,by show l.length<=4;rw[Xz];exact H.m4,fun p hp=>(H.me (p.kv,p.x) (by rw[<-hl];exact List.mem_map.2 ⟨p,hp,O⟩)).2.2,H.gk,by show Sl h' yM D.vm (l.map fun p=>(p.kv,p.x));rw[hl];exact H.mm.ext hE,H.ff.ext hE,H.zf.ext hE,H.fk,H.g0.imp fun _ ⟨z,e⟩=>⟨z,hE.1 _ _ e⟩,hE.2 _ H.z0⟩
def akp(D:yD)(v:Value)(L:ah)(kb:Nat)(F:ah):Prop:=∃(X:Nat) (l:List uV) (vp:Value) (S:ah),v=aG X/\l.map (fun p=>(p.kv,p.x))=D.jJ/\(∀p∈l,XG (nH D.gs p.x.ks D.ps) p.x.d p.v p.E)/\Os dA abJ vp (l.map (·.B)) S/\
 Sb ((X,.cells (mG D.va D.nS D.vr D.vf D.vm vp D.ps kb) gB (0,0))::(S++(L++bM l))) F
theorem ab2{main:aN}(hS:∀S,main.ok S->∃Fin,S=Mn aV Fin)(qJ:main.b=true)(h:Hp)(D:yD)(H:D.At h)(kb:Nat):bG aV main Ez #[D.V,aG kb] h [] (fun v F=>akp D v [] kb F):=
 bG.mono (aj_ main hS qJ h D.va D.nS D.vr D.vf D.vm D.ps kb D.gs D.jJ H.pn.one H.rr.one H.ff.one H.ga H.za H.gk H.pk H.mm H.me H.m4) fun v F ⟨X,l,vp,S,h1,h2,h3,h4,h5⟩=>⟨X,l,vp,S,h1,h2,h3,h4,h5⟩
theorem wo{main:aN}(hS:∀S,main.ok S->∃Fin,S=Mn aV Fin)(qJ:main.b=true)(h:Hp)(D:yD)(H:D.At h)(ns:List Int)(vn:Value)(hn:Sl h bY vn ns)(hns:∀n∈ns,0<=n/\n<D.jJ.length)(hl:ns.length<=1000):
  bG aV main VI #[D.V,vn] h [] (fun v F=>∃u kb mb,v= .tuple #[u,I 0]/\akp D u (pX kb mb []) kb F):=by
 obtain⟨a,cap,rfl⟩:=hn.aU;obtain⟨am,cm,em⟩:=H.mm.aU;have h4:=H.m4;refine bG.bH func35 [(0,D.V),(1,.slice a ns.length cap)] ?_;refine d_ ?_;refine aA.box (fun oJ=>?_);refine jk ?_;refine cp (fun h' hE hL=>ahf _ h' D (H.ext hE)) ?_;refine jk ?_;refine W.aJ O (fun OZ=>?_) (fun OZ=>?_)
 ·exact absurd O OZ
 refine gZ ?_;refine W.loop (σ:=Nat) (fun k=>k<=ns.length) (fun k=>[(16,I k),(15,I ns.length),(14,.slice a ns.length cap),(2,aG oJ)]) (fun _=>[(oJ,.cells #[D.va,I D.ps,D.nS,D.vr,D.vf,D.vm] fC (0,0))]) (fun k=>ns.length-k) 0 (Nat.zero_le _) iw .refl ?_;rintro k hk;refine kJ ?_;refine W.aJ O (fun c17=>?_) (fun c17=>?_)
 ·have zI:k<ns.length:=by omega
  obtain⟨p,hp,yI⟩:=has zI;obtain⟨b,off,c,E,fz,rfl,hb,hx,hy,hz⟩:=hn.at hp;have Aq:c[off+k*1]? =some (I p):=hz 0 dF;have hpn:=hns p (dL hp);clear hx hz;refine Qu ?_;rw[em];refine d_ ?_;refine cp (fun h' hE hL=>EZ _ h' p 0 (D.jJ.length-1) (by simp only[outs];omega)) ?_;refine qj ?_;refine W.iq ?_;refine jk ?_;exact⟨O,k+1,zI,aj,iw,.refl⟩
 refine kR ?_;refine oe O wn O O (O7 O (fun amE hn0 hm0=>?_));refine b_ (dw (cs:= #[.int .i32 0,.int .u32 0,.map (some amE)]) O O aB) O ?_;refine aA.box (fun UW=>?_);refine c0 (fun h' hE hL=>ab2 hS qJ h' D (H.ext hE) UW) (fun v A' hv=>?_);obtain⟨X,l,vp,S,rfl,h2,h3,hO,bF⟩:=hv;refine lF ?_;refine iQ (vs:=[_,_]) ⟨_,UW,amE,O,X,l,vp,S,O,h2,h3,hO,?_⟩;refine .trans ?_ (bF.app (.cons (.cons (.skip O .refl))));refine .aT ?_;show List.Perm (_::(S++([_,_]++bM l))) ((_::(S++bM l))++[_,_]);refine List.Perm.cons _ ?_;show List.Perm (S++([_,_]++bM l)) (S++bM l++[_,_]);rw[eF];exact List.Perm.append_left _ dK
structure Mo where
 (gs:List Ag) (ps:Int) (fs:List Fl) (mts:List Mt)
def Mo.mi(N:Mo):oU:=⟨0,.nilIface,.nilIface,.nilIface,.nilIface,.nilIface,.nilIface,N.ps,0,N.gs,N.mts.map fun x=>⟨0,.nilIface,x,.nilIface,[]⟩,N.fs⟩
def yD.mo(D:yD):Mo:=⟨D.gs,D.ps,D.fs,D.jJ.map (·.2)⟩
structure oU.Sim(M M':oU):Prop where
 gs:M.gs=M'.gs
 ps:M.ps=M'.ps
 fs:M.fs=M'.fs
 l:M.l.map (·.x)=M'.l.map (·.x)
section
variable{M M':oU}(H:M.Sim M')
include H
theorem oU.Sim.w:M.w=M'.w:=by funext x;unfold oU.w;rw[H.gs,H.ps]
theorem oU.Sim.n:M.l.length=M'.l.length:=by have:=congrArg List.length H.l;simpa using this
theorem oU.Sim.at(i:Nat):(M.l[i]?).map (·.x)=(M'.l[i]?).map (·.x):=by
 have:=congrArg (fun l=>l[i]?) H.l;simpa using this
theorem oU.Sim.Wl:Wl M=Wl M':=by funext x;unfold jc.Wl;rw[H.w]
theorem oU.Sim.Ll:Ll M=Ll M':=by
 funext i;have h:=H.at i.toNat;unfold jc.Ll
 cases e:M.l[i.toNat]? <;>cases e':M'.l[i.toNat]? <;>rw[e,e']at h <;>simp at h⊢
 rw[H.Wl,h]
theorem oU.Sim.lI:Gj M=Gj M':=by
 funext i;have h:=H.at i;unfold Gj
 cases e:M.l[i]? <;>cases e':M'.l[i]? <;>rw[e,e']at h <;>simp at h⊢
 rw[H.w,h]
theorem oU.Sim.ord:nZ M=nZ M':=by unfold nZ QL;rw[H.Ll,H.lI,H.n]
theorem oU.Sim.stI:stI M=stI M':=by
 funext i;have h:=H.at i.toNat;unfold jc.stI
 cases e:M.l[i.toNat]? <;>cases e':M'.l[i.toNat]? <;>rw[e,e']at h <;>simp at h⊢
 rw[H.Wl,h];simp
theorem oU.Sim.st:stM M=stM M':=by unfold stM;rw[H.ord,H.stI]
theorem oU.Sim.ber:Ls M=Ls M':=by funext i;unfold Ls;rw[H.lI,H.fs,H.st,H.ord]
theorem oU.Sim.ayb:uQ M=uQ M':=by unfold uQ;rw[H.ber,H.n]
theorem oU.Sim.set:mV M=mV M':=by unfold mV O0;rw[H.ber,H.n]
theorem oU.Sim.JD:FI M=FI M':=by unfold FI;rw[H.st,H.fs]
end
theorem Lu{l:List uV}(hl:l.map (fun p=>(p.kv,p.x))=D.jJ):(oU.of D X kb vp l).Sim D.mo.mi:=by
 refine⟨O,O,O,?_⟩;show l.map (·.x)=(D.mo.mts.map _).map _;rw[List.map_map];show l.map (·.x)=(D.jJ.map (·.2)).map _;rw[<-hl,List.map_map,List.map_map];rfl
theorem W.Ws{c:Code}{S:ah}(D:yD)(H:D.At x.h){l:List uV}(hl:l.map (fun p=>(p.kv,p.x))=D.jJ)(fP:∀p∈l,XG (nH D.gs p.x.ks D.ps) p.x.d p.v p.E)(hO:Os dA abJ vp (l.map (·.B)) S)
  (K:∀h',Ext x.h h'->(oU.of D X kb vp l).At h'->W {x with h:=h'} c Q ρ ds F):W x c Q ρ ds ((X,.cells (mG D.va D.nS D.vr D.vf D.vm vp D.ps kb) gB (0,0))::(S++F)):=
 W.freeze O fun h1 zD hb _=>eY hO fun h2 NY P7 _=>K h2 (zD.trans NY) (H.Ws (zD.trans NY) (NY.1 _ _ hb) P7 hl fP)
theorem pY{l:List uV}(fP:∀p∈l,XG (nH D.gs p.x.ks D.ps) p.x.d p.v p.E):eH (bM l):=by
 refine eH.NW fun b o hb=>?_;obtain⟨F,hF,hbF⟩:=List.mem_flatten.1 hb;obtain⟨p,hp,rfl⟩:=List.mem_map.1 hF;rcases bU.1 hbF with e | hbF
 ·cases e;rfl
 obtain⟨E',h1,h2,-⟩:=(fP p hp).clean;have hs:=fP p hp;revert hs
 cases hw:nH D.gs p.x.ks D.ps with
 | none=>rintro⟨-,e⟩;rw[e]at hbF;cases hbF
 | some w=>rintro⟨s,-,hR⟩;exact hR.cl b o hbF
theorem wu{mb:Nat}:eH (pX kb mb m):=.cons O (.cons O .nil)

theorem aqU{main:aN}(hS:∀S,main.ok S->∃Fin,S=Mn aV Fin)(qJ:main.b=true)(h:Hp)(D:yD)(H:D.At h):bG aV main YM #[D.V] h [] (fun v F=>∃vb S,v= .tuple #[vb,I (jF D.fs (stM D.mo.mi)).2.1,I 0]/\Os ku Be.row vb (uQ D.mo.mi) S/\Sb S F):=by
 refine bG.bH func18 [(0,D.V)] ?_;refine d_ ?_;refine aA.box (fun vg=>?_);refine jk ?_;refine c0 (fun h' hE hL=>wo hS qJ h' D (H.ext hE) [] _ .nil (fun n hn=>by cases hn) (Nat.zero_le _)) (fun v A' hv=>?_);obtain⟨u,kb,mb,rfl,X,l,vp,S,rfl,hl,fP,hO,bF⟩:=hv;refine aA.sb (bF.app .refl) ?_;refine oz ?_;refine W.aJ O (fun Xn=>?_) (fun Xn=>?_)
 ·exact absurd O Xn
 refine d_ ?_;refine W.sb (F':=(X,.cells (mG D.va D.nS D.vr D.vf D.vm vp D.ps kb) gB (0,0))::(S++bM l)) (.cons (.trans (.app .refl (.left .refl wu)) (.right .refl (.cons O .nil)))) ?_;refine W.Ws D H hl fP hO (fun h1 zD HM=>?_);have E8:=Lu (X:=X) (kb:=kb) (vp:=vp) hl;refine gI ?_;refine cg (A:=bM l) .all (fun h' hE hL=>afy hS qJ h' _ (HM.ext hE)) (fun v A' hv=>?_);obtain⟨vb,SB,rfl,hOB,pJ⟩:=hv;rw[E8.ayb]at hOB;rw[E8.st];refine Qu ?_;exact iQ (vs:=[_,_,_]) ⟨_,SB,O,hOB,.trans (.right .refl (pY fP)) pJ⟩
def Vb(N:Mo):Int:=if xC N.fs (stM N.mi)<0 then xC N.fs (stM N.mi)else(nZ N.mi).getD (xC N.fs (stM N.mi)).toNat 0
theorem akr{main:aN}(hS:∀S,main.ok S->∃Fin,S=Mn aV Fin)(qJ:main.b=true)(h:Hp)(D:yD)(H:D.At h):bG aV main YK #[D.V] h [] (fun v F=>v= .tuple #[I (Vb D.mo),I 0]/\eH F):=by
 refine bG.bH func14 [(0,D.V)] ?_;refine d_ ?_;refine aA.box (fun vg=>?_);refine lg ?_;refine c0 (fun h' hE hL=>wo hS qJ h' D (H.ext hE) [] _ .nil (fun n hn=>by cases hn) (Nat.zero_le _)) (fun v A' hv=>?_);obtain⟨u,kb,mb,rfl,X,l,vp,S,rfl,hl,fP,hO,bF⟩:=hv;refine aA.sb (bF.app .refl) ?_;refine oz ?_;refine W.aJ O (fun Xn=>?_) (fun Xn=>?_)
 ·exact absurd O Xn
 refine d_ ?_;refine W.sb (F':=(X,.cells (mG D.va D.nS D.vr D.vf D.vm vp D.ps kb) gB (0,0))::(S++bM l)) (.cons (.trans (.app .refl (.left .refl wu)) (.right .refl (.cons O .nil)))) ?_;refine W.Ws D H hl fP hO (fun h1 zD HM=>?_);have E8:=Lu (X:=X) (kb:=kb) (vp:=vp) hl;obtain⟨Eg,zg,hg⟩:=HM.g0;obtain⟨af,cf,ef⟩:=HM.fl.aU;refine gI ?_;refine cg (A:=bM l) .all (fun h' hE hL=>N8 (r_.of hS qJ) h' _ (HM.ext hE)) (fun v A' hv=>?_);obtain⟨vs,S3,vo,S2,rfl,hO3,Ci,pJ⟩:=hv;rw[ef];obtain⟨a3,c3,rfl⟩:=hO3.aU;obtain⟨a2,c2,rfl⟩:=Ci.aU;have zU:=HM.ckP;refine aA.sb (F':=S2++S3) (.trans (.trans (.aT dK) (.app .refl (.right .refl (pY fP)))) pJ) ?_;refine gI ?_;refine aA.new (fun mX=>?_);refine gI ?_;refine W.sb (F':=S2++((mX,.cells #[.slice af (oU.of D X kb vp l).fs.length cf,.slice a3 (stM (oU.of D X kb vp l)).length c3] j_ (0,0))::S3)) (.aT List.perm_middle) ?_;refine eY Ci (fun h2 NY Oa hz2=>?_);refine gI ?_
 refine cp (fun h' hE hL=>show Pu aV main MW #[.agg #[.slice af (oU.of D X kb vp l).fs.length cf,.slice a3 (stM (oU.of D X kb vp l)).length c3]] h' (.tuple #[I (xC D.fs (stM D.mo.mi)),I 0])from by
  have:=al8 main h' _ _ _ _ Eg zg (ef▸((HM.fl.ext NY).ext hE)) (hO3.sl fun b o hb=>hL b o (.tail _ hb)) (hE.1 _ _ (NY.1 _ _ hg));rw[zU,if_neg dF,E8.st]at this;rw[E8.st];exact this) ?_
 refine gZ ?_;refine Gh (u:=.bool false) (Fe O O O) O O wn O O ?_;refine kJ ?_;refine W.aJ O (fun EL=>?_) (fun EL=>?_)
 ·have Xz:Vb D.mo=xC D.fs (stM D.mo.mi):=by unfold Vb;rw[show D.mo.fs=D.fs from rfl,if_pos EL]
  refine FT ?_;rw[<-Xz];exact iQ (vs:=[_,_]) ⟨O,.cons O hO3.shut⟩
 obtain⟨r,hr,hl1⟩:∃r:Nat,r<(stM D.mo.mi).length/\xC D.fs (stM D.mo.mi)=r:=by
  rcases Pj D.fs (stM D.mo.mi)with⟨hl1,-⟩ | ⟨r,hr,hl1,-⟩
  ·omega
  exact⟨r,hr,hl1⟩
 have FK:r<(nZ D.mo.mi).length:=by simpa[stM]using hr
 rw[E8.ord]at Oa⊢;obtain⟨a,ha,-⟩:=has FK
 have Xz:Vb D.mo=a:=by
  unfold Vb;rw[show D.mo.fs=D.fs from rfl,if_neg EL,hl1,Int.toNat_natCast,List.getD_eq_getElem?_getD,ha];rfl
 obtain⟨b,off,c,E,fz,rfl,hb,hx,hy,hz⟩:=Oa.at ha;have Aq:c[off+r*1]? =some (I a):=hz 0 dF;clear hx hz;rw[hl1];refine oz ?_;rw[Xz];exact iQ (vs:=[_,_]) ⟨O,.cons O hO3.shut⟩
def Mo.way(N:Mo)(i:Nat):Option (List Int):=match N.mts[i]? with
 | some x=>nH N.gs x.ks N.ps
 | none=>none
theorem aks{w:Option (List Int)}{d:Int}{E:ah}(H:XG w d v E):∃(sa:Option Addr) (n sc:Nat) (z:Int),V3 aV (Instr.typeAssert v VU oG true)=some (.tuple #[.agg #[.slice sa n sc,I z],.bool w.isSome])/\∀l,w=some l->Rn E (.slice sa n sc) l/\n=l.length/\z=d+l.length:=by
 cases w with
 | none=>
  obtain⟨rfl,-⟩:=H;exact⟨none,0,0,0,aB,fun l h=>by cases h⟩
 | some l=>
  obtain⟨sa,sc,rfl,hR⟩:=H.some rfl;exact⟨sa,l.length,sc,d+l.length,aB,fun l' h=>by cases h;exact⟨hR,rfl,rfl⟩⟩
theorem XM{l:List uV}{p:uV}(h:l[i]? =some p)(hb:(b,o)∈p.E):(b,o)∈bM l:=(N7 h).subset (bZ _ (jm _ hb))
theorem ab4{l:List uV}(hl:l.map (fun p=>(p.kv,p.x))=D.jJ)(hi:i<D.jJ.length):∃p,l[i]? =some p/\D.jJ[i]? =some (p.kv,p.x)/\D.mo.way i=nH D.gs p.x.ks D.ps:=by
 have hn:i<l.length:=by rw[<-hl,List.length_map]at hi;exact hi
 refine⟨l[i],jh hn,?_,?_⟩
 ·rw[<-hl,iL,jh hn];rfl
 unfold Mo.way;show(match(D.jJ.map (·.2))[i]? with | some x=>nH D.gs x.ks D.ps | none=>none)=_;rw[<-hl,iL,iL,jh hn];rfl

theorem auy{main:aN}(hS:∀S,main.ok S->∃Fin,S=Mn aV Fin)(qJ:main.b=true)(h:Hp)(D:yD)(H:D.At h)(i:Nat)(hi:i<D.jJ.length):bG aV main aaI #[D.V,I i] h [] (fun v F=>∃u S,v= .tuple #[u,I (if(D.mo.way i).isSome then 0 else 11)]/\Os aX bY u ((D.mo.way i).getD []) S/\Sb S F):=by
 refine bG.bH func12 [(0,D.V),(1,I i)] ?_;refine d_ ?_;refine aA.box (fun oJ=>?_);refine jk ?_;refine aA.zZ (cs:= #[I i]) (fun yg=>?_) O;refine c0 (fun h' hE hL=>wo hS qJ h' D (H.ext hE) [(i:Int)] _ (Sl.mk (hL yg _ (.head _)) O (Part.all [I i])) (fun n hn=>by rw[dP.1 hn];omega) (Nat.le_of_ble_eq_true O)) (fun v A' hv=>?_);obtain⟨u,kb,mb,rfl,X,l,vp,S,rfl,hl,fP,hO,bF⟩:=hv;refine aA.sb (bF.app .refl) ?_;refine oz ?_;refine W.aJ O (fun c18=>?_) (fun c18=>?_)
 ·exact absurd O c18
 refine d_ ?_;refine W.sb (F':=(X,.cells (mG D.va D.nS D.vr D.vf D.vm vp D.ps kb) gB (0,0))::(S++bM l)) (.cons (.trans (.app .refl (.left .refl wu)) (.right .refl (.cons O (.cons O .nil))))) ?_;refine W.Ws D H hl fP hO (fun h1 zD HM=>?_);obtain⟨p,hp,hpm,hw⟩:=ab4 hl hi;have aax:=fP p (dL hp);obtain⟨sa,n,sc,z,hta,htl⟩:=aks aax;rw[hw];obtain⟨EX,zX,hX⟩:=HM.cx;have Oj:=HM.vp;obtain⟨av,cv',ev'⟩:=Oj.aU;rw[List.length_map]at ev';unfold oU.C at hX;rw[ev']at hX Oj;have hX:h1 X=some (.cells (mG D.va D.nS D.vr D.vf D.vm (.slice av l.length cv') D.ps kb) EX zX):=hX;have Gp:i<l.length:=by rw[<-hl,List.length_map]at hi;exact hi
 obtain⟨b,off,c,E,fz,rfl,hb,hx,hy,hz⟩:=Oj.at (show(l.map (·.B))[i]? =some p.B by rw[iL,hp];rfl);have Aq:c[off+i*1]? =some (aG p.B):=hz 0 dF;clear hx hz;have hmm:=Pm hp;refine iC ?_;refine b_ (CG O O (.inr fun _ e=>by subst e;exact hmm) O) O ?_;refine b_ (yta hta O O) O ?_;refine gI ?_;refine aA.new (fun zC=>?_);refine FT ?_;refine W.cond O (fun c35=>?_) (fun c35=>?_)
 ·have xJ:nH D.gs p.x.ks D.ps=none:=by simpa using c35
  refine jk ?_;rw[xJ];exact iQ (vs:=[.slice none 0 0,I 11]) ⟨_,[],O,.nil .nil,.skip O (.nil (pY fP))⟩
 obtain⟨w,Lh⟩:∃w,nH D.gs p.x.ks D.ps=some w:=iJ.1 (by simpa using c35);obtain⟨hR,rfl,-⟩:=htl w Lh;have hw5:=DK (Iq.xE H.gk).len Lh;refine lg ?_;refine c0 (fun h' hE hL=>DC _ h' w _ (hR.rd _ fun b o hb=>hL b o (.tail _ (XM hp hb))) aj) (fun v A' hv=>?_);obtain⟨S2,hS2,pJ⟩:=hv;refine lF ?_;rw[Lh];exact iQ (vs:=[v,I 0]) ⟨_,S2,O,hS2,.right pJ (.cons O (pY fP))⟩
end Go.jc
