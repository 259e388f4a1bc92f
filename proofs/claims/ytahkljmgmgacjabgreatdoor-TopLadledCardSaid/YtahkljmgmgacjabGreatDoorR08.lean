/- The best plans of a hall. Conditions: none; over the given program. (And 15 texts more.) -/
import Derived.Test.YtahkljmgmgacjabGreatDoorR07
import Derived.Test.YtahkljmgmgacjabGreatDoorR04
set_option linter.unusedVariables false
set_option linter.unusedSimpArgs false
set_option linter.unusedSectionVars false

/- The best plans of a hall. Conditions: none; over the given program. -/
namespace Go.aS
set_option maxRecDepth 100000
set_option maxHeartbeats 4000000
def aAQ(ss:List St)(s:(Int×List (List Be))×List (List Be))(p:List Be):(Int×List (List Be))×List (List Be):=
 if p∈s.2 then s else(WA s.1 p (awM ss p),s.2++[p])
def ayt(ss:List St)(l:List (List Be)):(Int×List (List Be))×List (List Be):=l.foldl (aAQ ss) ((0,[]),[])
def awR(fs:List Fl)(ss:List St):Int×List (List Be):=(ayt ss (azZ fs ss azx)).1
theorem aDQ{ss:List St}{l:List (List Be)}{i:Nat}{p:List Be}(h:l[i]? =some p):ayt ss (l.take (i+1))=aAQ ss (ayt ss (l.take i)) p:=by
 simp only[ayt,MG h,List.foldl_append,List.foldl_cons,List.foldl_nil]
theorem aJf{s:Int×List (List Be)}{p:List Be}{n:Int}:(WA s p n).2.length≤s.2.length+1:=by
 simp only[WA]
 split <;>split <;>simp
theorem aED{ss:List St}:∀{l:List (List Be)} {i:Nat},i≤l.length→(ayt ss (l.take i)).1.2.length≤i∧∀p∈(ayt ss (l.take i)).2,p∈l
 | l,0,_=>by simp[ayt]
 | l,i+1,h=>by
  obtain⟨p,hp,-⟩:=has (show i<l.length by omega)
  rw[aDQ hp]
  obtain⟨h1,h2⟩:=aED (ss:=ss) (l:=l) (i:=i) (by omega)
  simp only[aAQ]
  split
  ·exact⟨by omega,h2⟩
  ·refine⟨Nat.le_trans aJf (by simpa using h1),fun q hq=>?_⟩
   rcases List.mem_append.1 hq with hq | hq
   ·exact h2 q hq
   ·have:q=p:=by simpa using hq
    subst this
    exact List.mem_of_getElem? hp
theorem aJg{fs:List Fl}{ss:List St}{may:May}{p:List Be}(h:p∈azZ fs ss may):p.length=4:=by
 unfold azZ at h
 split at h
 ·exact aD5 (Nat.zero_le _) h
 ·obtain⟨b,_,hb⟩:=List.mem_flatMap.1 h
  exact aD5 (l:=[b]) (by simp) hb
theorem aJh{fs:List Fl}{ss:List St}{may:May}(hall:Ju fs ss):(azZ fs ss may).length≤28561:=by
 unfold azZ
 split
 ·rename_i h
  have h1:=aBZ (may:=may) (l:=[]) hall (Nat.zero_le _)
  rw[h]at h1
  exact Nat.le_trans h1 (by decide)
 ·have h1:=aB0 (may:=may) hall (by omega) (jc fs ss may 0)
  have h2:=aAt (may:=may) hall (show 0<ss.length by omega)
  have h3:(jc fs ss may 0).length*2197≤13*2197:=Nat.mul_le_mul_right _ h2
  omega
theorem mem_keys{p:List Be}{met:List (List Be)}(hp:p.length=4)(hm:∀q∈met,q.length=4):aBo p∈met.map aBo↔p∈met:=by
 constructor
 ·intro h
  obtain⟨q,hq,e⟩:=List.mem_map.1 h
  rw[←aGB ((hm q hq).trans hp.symm) e]
  exact hq
 ·exact fun h=>List.mem_map.2 ⟨p,h,rfl⟩
theorem aAA{fs:List Fl}{ss:List St}{may:May}(hall:Ju fs ss):∀{m k:Nat} {q p:List Be},k+m≤ss.length→axb fs ss q→p∈rights fs ss may m k q→axb fs ss p
 | 0,k,q,p,_,hq,h=>by
  simp only[rights]at h
  split at h
  ·have:p=q:=by simpa using h
   subst this;exact hq
  ·cases h
 | m+1,k,q,p,hk,hq,h=>by
  simp only[rights,List.mem_flatMap]at h
  obtain⟨b,hb,h⟩:=h
  split at h
  ·cases h
  ·exact aAA hall (by omega) (ax4 hq (by omega) (awZ hall (by omega) hb)) h
theorem aGC{fs:List Fl}{ss:List St}{may:May}{p:List Be}(hall:Ju fs ss)(h:p∈azZ fs ss may):axb fs ss p:=by
 unfold azZ at h
 split at h
 ·exact aAA hall (by simp) (azf hall.nf.1) h
 ·rename_i hn
  obtain⟨b,hb,h⟩:=List.mem_flatMap.1 h
  refine aAA hall (by simp;omega) ?_ h
  rw[aDq]
  exact ax4 (azf hall.nf.1) (by omega) (awZ hall (by omega) hb)

theorem aaz(main:Side)(hS:∀S,main.ok S→∃Fin,S=Mn prog Fin)(hmb:main.b=true)(h:Hp)(fs:List Fl)(ss:List St)(vf vs:Value)(Eg:TypeId)(zg:Nat×Nat)(hf:Sl h Fl.row vf fs)(hs:Sl h St.row vs ss)(zf:Zs h vf)(zs:Zs h vs)(hall:Ju fs ss)
  (hg:h 0=some (.cells #[Ur qM] Eg zg)) (z0:h.z 0):dV prog main aAn #[.agg #[vf,vs]] h [] (fun v A=>∃u S,v= .agg #[I (awR fs ss).1,u]∧Os zl rowP u (awR fs ss).2 S∧Sb S A):=by
 obtain⟨a,cap,rfl⟩:=hf.dA
 obtain⟨a',cap',rfl⟩:=hs.dA
 have hns:=hall.ns
 obtain⟨ps,hps⟩:∃ps,azZ fs ss azx=ps:=⟨_,rfl⟩
 have hpl:ps.length≤28561:=by rw[←hps];exact aJh hall
 have Du:∀p∈ps,p.length=4:=fun p hp=>aJg (hps▸hp)
 have hpo:∀p∈ps,axb fs ss p:=fun p hp=>aGC hall (hps▸hp)
 refine dV.aG aCG rfl (by show 1≤32;decide) [(0,.agg #[.slice a fs.length cap,.slice a' ss.length cap'])] ⟨rfl,trivial⟩ ?_
 refine W.seq<|W.region rfl ?_
 refine Ops.box (fun β1=>?_)
 refine Ops.new (fun yR=>?_)
 refine pq<|W.seq<|W.region rfl ?_
 refine Ops.new (fun uU=>?_)
 refine pq<|W.seq<|W.region rfl ?_
 refine agW (ayq rfl rfl rfl) rfl ?_
 refine agb rfl rfl rfl<|pq<|W.seq<|W.region rfl ?_
 refine oe rfl wn rfl rfl (Md rfl fun Uw _ _=>?_)
 refine agb rfl rfl rfl<|pq<|W.seq<|W.seq<|W.region rfl ?_
 first | refine ag2 rfl ?_ | refine agW (ady rfl rfl) rfl ?_
 refine agW (eH rfl rfl rfl) rfl ?_
 refine c0 (fun h' hE hL=>ab7 _ hS hmb h' fs ss azx (.slice a fs.length cap) (.slice a' ss.length cap') (.func (.func azT) #[] #[]) Eg zg (hf.ext hE) (hs.ext hE) (zf.ext hE) (zs.ext hE) rfl hall aI9 (hE.1 _ _ hg) (hE.2 _ z0)) (fun v A' hv=>?_)
 rw[hps]at hv
 obtain⟨S,hS',hsb⟩:=hv
 obtain⟨sa,sc,rfl⟩:=hS'.dA
 refine agW (dM rfl rfl) rfl ?_
 refine qm rfl rfl rfl<|pq<|W.block ?_
 refine W.sb (F':=S++((Uw,.map #[] 0)::(uU,.cells #[I 0,.slice none 0 0] aCQ (0,0))::(yR,.cells #[I 0,.slice none 0 0] aCQ (0,0))::[(β1,.cells #[.slice a fs.length cap,.slice a' ss.length cap'] azt (0,0))])) (hsb.app .refl) ?_
 refine JU hS' (fun hx hEx hsl _=>?_)
 refine W.Js (fun(i:Nat) (u:Value) (T:eG×Array MapEntry×Nat)=>i≤ps.length∧Os zl rowP u (ayt ss (ps.take i)).1.2 T.1∧aE9 T.2.1 ((ayt ss (ps.take i)).2.map aBo)) (fun i _ _=>[(14,I i),(13,I ps.length),(12,.slice sa ps.length sc),(5,.map (some Uw)),(4,.func (.func ay8) #[.pointer (some ⟨uU,0,none⟩)] #[]),(3,.pointer (some ⟨uU,0,none⟩)),(2,.pointer (some ⟨yR,0,none⟩)),(1,.pointer (some ⟨β1,0,none⟩))])
  (fun i u T=>(Uw,.map T.2.1 T.2.2)::(yR,.cells #[I 0,.slice none 0 0] aCQ (0,0))::(β1,.cells #[.slice a fs.length cap,.slice a' ss.length cap'] azt (0,0))::(uU,.cells #[I (ayt ss (ps.take i)).1.1,u] aCQ (0,0))::T.1) (fun i _ _=>ps.length-i) 0 (.slice none 0 0) ([], #[],0) ⟨Nat.zero_le _,.nil .nil,rfl⟩ ⟨rfl,rfl,rfl,rfl,rfl,rfl,rfl,rfl,trivial⟩ (Sb.dF ?_) ?_
 ·refine(List.Perm.cons _ ?_)
  exact List.perm_append_comm (l₁:=[_,_]) (l₂:=[_])
 rintro i u ⟨Sm,es,cl⟩ ⟨hi,hO,hM⟩
 simp only at hO hM
 obtain⟨ua,uc,rfl⟩:=hO.dA
 refine W.seq<|W.region rfl ?_
 refine agW (fO rfl rfl rfl) rfl ?_
 refine pq<|W.seq ?_
 refine W.bC rfl (fun c15=>?_) (fun c15=>?_)
 ·obtain⟨p,hp,-⟩:=has (show i<ps.length by omega)
  have hpm:=List.mem_of_getElem? hp
  have agk:=Du p hpm
  have hok:=(hpo p hpm).ok
  have hnx:=aDQ (ss:=ss) hp
  obtain⟨hbl,hbm⟩:=aED (ss:=ss) hi
  obtain⟨⟨cc,ll⟩,met,hst⟩:∃c m,ayt ss (ps.take i)=(c,m):=⟨_,_,rfl⟩
  rw[hst]at hO hM hbl hbm hnx⊢
  have hm4:∀q∈met,q.length=4:=fun q hq=>Du q (hbm q hq)
  obtain⟨b,off,c,E,fz,rfl,hb,hx1,hy1,hz1⟩:=hsl.at hp
  have hx2:c.extract (off+i*8) (off+i*8+8)=(flat Be.row p).toArray:=by rw[hx1,aF3 agk]
  clear hx1 hz1
  have hsz:=ay0 hok
  have hon:ones (flat Be.row p).toArray.toList=true:=aza
  refine W.skip<|aA<|W.seq<|W.block<|W.seq<|W.region rfl ?_
  refine ag3 rfl ?_
  first | refine ag2 rfl ?_ | refine agW (ady rfl rfl) rfl ?_
  refine Ops.new (fun Vo=>?_)
  first | refine Ops.jP ?_ | refine Ops.nY ?_
  refine pq<|W.seq<|W.seq<|W.region rfl<|qm rfl rfl rfl ?_
  first | refine ag2 rfl ?_ | refine agW (ady rfl rfl) rfl ?_
  refine oe rfl wn rfl rfl (aJc (a:=aBo p) rfl rfl rfl (aF5 p) (aAP agk) (.tail .head) hM (fun q hq=>by obtain⟨q',h1,rfl⟩:=List.mem_map.1 hq;exact aAP (hm4 _ h1)) ?_)
  refine agW (xU rfl rfl) rfl ?_
  refine pq ?_
  refine W.cond rfl (fun c21=>?_) (fun c21=>?_)
  ·refine W.DR [(Vo,.cells (flat Be.row p).toArray zl (0,0)),(β1,.cells #[.slice a fs.length cap,.slice a' ss.length cap'] azt (0,0))] (n:=6) rfl ?_
   refine dn 0 (aN rfl rfl) rfl ?_
   first | refine dn 1 (Bf rfl rfl) rfl ?_ | refine dn 1 (zi rfl rfl) rfl ?_ | refine dn 1 (ady rfl rfl) rfl ?_
   first | refine dn 2 (Bf rfl rfl) rfl ?_ | refine dn 2 (zi rfl rfl) rfl ?_ | refine dn 2 (ady rfl rfl) rfl ?_
   first | refine dn 3 (Bf rfl rfl) rfl ?_ | refine dn 3 (zi rfl rfl) rfl ?_ | refine dn 3 (ady rfl rfl) rfl ?_
   refine Va (i:=4) (fun h' hE hL=>aIk _ h' fs ss p _ _ ((hf.ext hEx).ext hE) ((hs.ext hEx).ext hE) hok hns) ?_ (hS:=.inr (fun q hq=>?_))
   rotate_left
   ·rcases List.mem_cons.1 hq with rfl | hq
    ·exact .head _
    ·rcases List.mem_cons.1 hq with rfl | hq
     ·exact .tail _ (.tail _ (.tail _ (.head _)))
     ·cases hq
   refine ae (i:=5) rfl an rfl rfl (tJ (args:=[_,_]) rfl rfl rfl (.tail (.tail (.tail (.tail .all)))) (fun h' hE hL=>gZ.zh (fi:=[_]) (args:=[_,_]) (ca:=[]) (aK9 _ h' uU cc (awM ss p) (.slice ua ll.length uc) ll p Sm hO (by have:ll.length≤i:=hbl;omega) agk)) (fun v A2 hv=>?_))
   refine⟨.inl (by kernel_rfl),?_⟩
   obtain⟨v',S2,hO2,Oh⟩:=hv
   obtain⟨va,vc,rfl⟩:=hO2.dA
   refine Any.sb (.cons (.cons (.cons (.cons Oh)))) ?_
   refine az ?_
   refine aA<|W.region rfl<|qm rfl rfl rfl ?_
   first | refine ag2 rfl ?_ | refine agW (ady rfl rfl) rfl ?_
   refine oe rfl wn rfl rfl (aDP (a:=aBo p) rfl rfl rfl (aF5 p) rfl (aAP agk) (.tail .head) hM (fun q hq=>by obtain⟨q',h1,rfl⟩:=List.mem_map.1 hq;exact aAP (hm4 _ h1)) (fun es' cl' hM'=>?_))
   refine Ops.nil<|dI<|aA<|W.region rfl ?_
   refine ag1 rfl ?_
   refine qm rfl rfl rfl<|pq ?_
   have hn:p∉met:=by
    intro hin
    have:=(mem_keys agk hm4).2 hin
    simp[this]at c21
   have hk:¬aBo p∈met.map aBo:=fun hin=>hn ((mem_keys agk hm4).1 hin)
   have hb2:ayt ss (ps.take (i+1))=(WA (cc,ll) p (awM ss p),met++[p]):=by rw[hnx];simp only[aAQ];rw[if_neg hn]
   have hM2:aE9 es' ((met++[p]).map aBo):=by
    rw[List.map_append]
    simpa[hk]using hM'
   refine⟨rfl,i+1,_,(S2,es',cl'),⟨by omega,by simp only[hb2];exact hO2,by simp only[hb2];exact hM2⟩,by omega,⟨rfl,rfl,rfl,rfl,rfl,rfl,rfl,rfl,trivial⟩,?_⟩
   simp only[hb2]
   exact .skip rfl .refl
  ·refine W.skip<|aA<|W.region rfl<|qm rfl rfl rfl ?_
   first | refine ag2 rfl ?_ | refine agW (ady rfl rfl) rfl ?_
   refine oe rfl wn rfl rfl (aDP (a:=aBo p) rfl rfl rfl (aF5 p) rfl (aAP agk) (.tail .head) hM (fun q hq=>by obtain⟨q',h1,rfl⟩:=List.mem_map.1 hq;exact aAP (hm4 _ h1)) (fun es' cl' hM'=>?_))
   refine Ops.nil<|dI<|aA<|W.region rfl ?_
   refine ag1 rfl ?_
   refine qm rfl rfl rfl<|pq ?_
   have hk:aBo p∈met.map aBo:=by simpa using c21
   have hn:p∈met:=(mem_keys agk hm4).1 hk
   have hb2:ayt ss (ps.take (i+1))=((cc,ll),met):=by rw[hnx];simp only[aAQ];rw[if_pos hn]
   have hM2:aE9 es' (met.map aBo):=by simpa[hk]using hM'
   refine⟨rfl,i+1,_,(Sm,es',cl'),⟨by omega,by simp only[hb2];exact hO,by simp only[hb2];exact hM2⟩,by omega,⟨rfl,rfl,rfl,rfl,rfl,rfl,rfl,rfl,trivial⟩,?_⟩
   simp only[hb2]
   exact .skip rfl .refl
 ·have hie:i=ps.length:=by omega
  subst hie
  rw[List.take_length]at hO⊢
  refine W.exit<|bP<|bP<|gG<|aA<|W.seq<|W.region rfl ?_
  first | refine ag2 rfl ?_ | refine agW (ady rfl rfl) rfl ?_
  first | refine Ops.jP ?_ | refine Ops.nY ?_
  refine pq<|W.ret ?_
  refine QJ (hv:=D_ zJ) ⟨.slice ua (ayt ss ps).1.2.length uc,Sm,?_,?_,?_⟩
  ·rw[awR,hps];rfl
  ·rw[awR,hps];exact hO
  ·exact .skip rfl (.skip rfl (.skip rfl (.skip rfl .refl)))
end Go.aS

/- That nothing is set is right. Conditions: none; over the given program's numbers. -/
namespace Go.aS
theorem aHL(k:Nat):qw (aw5 []) k=TL:=by
 simp only[qw,aw5,List.getD]
 rcases Nat.lt_or_ge k 4 with h | h
 ·rcases(by omega:k=0∨k=1∨k=2∨k=3)with rfl | rfl | rfl | rfl <;>rfl
 ·simp[h]
theorem aK_(k:Nat):(aw5 []).set k TL=aw5 []:=by
 rcases Nat.lt_or_ge k 4 with h | h
 ·rcases(by omega:k=0∨k=1∨k=2∨k=3)with rfl | rfl | rfl | rfl <;>rfl
 ·exact List.set_eq_of_length_le (by simpa[aw5]using h)
theorem aHM{f:Int}(hf:0≤f):∀k,azX (aw5 []) f k=[]
 | 0=>rfl
 | k+1=>by
  simp only[azX,aHL]
  rw[if_neg (by simp[TL];omega)]
  exact aHM hf k
theorem aJ_{f:Int}(hf:0≤f):JL (aw5 []) f=[]:=by
 rw[JL,aHM hf];rfl
theorem aHN{pl:Int}(hp:0≤pl):∀(m k:Nat),ayi pl (List.replicate m ⟨0,0⟩) k=none
 | 0,_=>rfl
 | m+1,k=>by
  rw[List.replicate_succ,ayi,if_neg (by simp;omega)]
  exact aHN hp m (k+1)
theorem aJi{fs:List Fl}{ss:List St}{f:Int}(hf:0≤f)(hp:0≤(Wy fs f).pl):aA_ fs ss (aw5 []) f=none:=by
 simp only[aA_,aw4,aJ_ hf,List.foldl_nil,aDm]
 exact aHN hp 22 0
theorem aGD{fs:List Fl}{ss:List St}(hall:Ju fs ss):∀k,k≤fs.length→azq fs ss (aw5 []) k=none
 | 0,_=>rfl
 | k+1,h=>by
  obtain⟨x,hx,-⟩:=has (show k<fs.length by omega)
  have hxe:Wy fs (k:Int)=x:=by simp[Wy,List.getD,hx]
  have hpl:=(hall.fl x (List.mem_of_getElem? hx)).1
  rw[azq,aGD hall k (by omega),aJi (by omega) (by rw[hxe];omega)]
  rfl
theorem aDG{fs:List Fl}{ss:List St}(hall:Ju fs ss):∀m k,aw5 []∈rights fs ss azx m k (aw5 [])
 | 0,k=>by
  rw[rights,az1,aGD hall _ (Nat.le_refl _)]
  simp
 | m+1,k=>by
  rw[rights,List.mem_flatMap]
  refine⟨TL,?_,?_⟩
  ·simp[jc,azx]
  ·rw[aK_,if_neg (by simp[prune,TL])]
   exact aDG hall m (k+1)
theorem aHO{fs:List Fl}{ss:List St}(hall:Ju fs ss):aw5 []∈azZ fs ss azx:=by
 unfold azZ
 split
 ·exact aDG hall _ _
 ·exact List.mem_flatMap.2 ⟨TL,by simp[jc,azx],aDG hall _ _⟩
theorem aHP{s:Int×List (List Be)}{p:List Be}{n:Int}:(WA s p n).2≠[]:=by
 obtain⟨c,l⟩:=s
 simp only[WA]
 by_cases h:l=[]∨c<n
 ·simp[h]
 ·simp only[h,if_false]
  rw[not_or]at h
  split
  ·simp
  ·exact h.1
theorem aBa{ss:List St}:∀(l:List (List Be)) (s:(Int×List (List Be))×List (List Be)),s.1.2≠[]→(l.foldl (aAQ ss) s).1.2≠[]
 | [],s,h=>h
 | p::l,s,h=>by
  rw[List.foldl_cons]
  refine aBa l _ ?_
  simp only[aAQ]
  split
  ·exact h
  ·exact aHP
theorem aEd{fs:List Fl}{ss:List St}(hall:Ju fs ss):(awR fs ss).2≠[]:=by
 have h:=aHO hall
 rw[awR,ayt]
 cases hl:azZ fs ss azx with
 | nil=>rw[hl]at h;cases h
 | cons p l=>
  rw[List.foldl_cons]
  refine aBa l _ ?_
  simp only[aAQ,List.not_mem_nil,if_false]
  exact aHP
theorem aJj{s:Int×List (List Be)}{p q:List Be}{n:Int}(h:q∈(WA s p n).2):q=p∨q∈s.2:=by
 obtain⟨c,l⟩:=s
 simp only[WA]at h
 split at h <;>split at h <;>simp at h <;>first | exact .inl h | exact .inr h | exact h.symm
theorem aEE{ss:List St}:∀(l:List (List Be)) (s:(Int×List (List Be))×List (List Be)) {q:List Be},q∈(l.foldl (aAQ ss) s).1.2→q∈s.1.2∨q∈l
 | [],s,q,h=>.inl h
 | p::l,s,q,h=>by
  rw[List.foldl_cons]at h
  rcases aEE l _ h with h | h
  ·simp only[aAQ]at h
   split at h
   ·exact .inl h
   ·rcases aJj h with rfl | h
    ·exact .inr (List.mem_cons_self ..)
    ·exact .inl h
  ·exact .inr (List.mem_cons_of_mem _ h)
theorem aFA{fs:List Fl}{ss:List St}{q:List Be}(h:q∈(awR fs ss).2):q∈azZ fs ss azx:=by
 rcases aEE _ _ h with h | h
 ·cases h
 ·exact h
end Go.aS

/- The best plan, and how many are as good. Conditions: none; over the given program. -/
namespace Go.aS
set_option maxRecDepth 100000
set_option maxHeartbeats 4000000
theorem aIl(main:Side)(h:Hp)(l:List Be)(vl:Value)(hs:Sl h Be.row vl l)(hn:l.length≤1000):dV prog main azk #[vl] h [] (fun v A=>∃S,Os aw3 Be.row v l S∧Sb S A):=by
 obtain⟨a,cap,rfl⟩:=hs.dA
 refine dV.aG aBf rfl (by show 1≤8;decide) [(0,.slice a l.length cap)] ⟨rfl,trivial⟩ ?_
 refine W.seq<|W.region rfl<|agb rfl rfl rfl<|pq<|W.seq<|W.seq<|W.region rfl<|qm rfl rfl rfl ?_
 refine agW (aae rfl rfl) rfl ?_
 refine pq ?_
 refine W.cond rfl (fun c4=>?_) (fun c4=>?_)
 ·refine W.seq<|W.region rfl<|agb rfl rfl rfl<|pq<|W.ret<|aY ?_
  have:l=[]:=by
   cases a with
   | some a=>cases c4
   | none=>
    rcases hss:l with _ | ⟨x,r⟩
    ·rfl
    ·obtain⟨b,off,c,E,fz,e,_⟩:=hs.at (i:=0) (p:=x) (by rw[hss];rfl)
     cases e
  subst this
  exact mg (vs:=[.slice none 0 0]) ⟨[],.nil .nil,.refl⟩
 ·refine W.skip<|aA<|W.seq<|W.region rfl ?_
  refine Ops.aeO (fun mZ=>?_) rfl
  refine qm rfl rfl rfl ?_
  have hO:Os aw3 Be.row (.slice (some ⟨mZ,0,none⟩) 0 0) ([]:List Be) [(mZ,.cells #[] aw3 (0,0))]:=.inr ⟨mZ, #[],0,[],rfl,rfl,rfl,Nat.le_refl _,Part.all [],.nil⟩
  refine oe rfl wn rfl rfl (iW (row:=Be.row) (l:=[]) (l':=l) rfl rfl rfl hO .all (fun h2 hE hl=>hs.ext hE) (by simp;omega) (by decide) rfl (fun v' S' hS'=>?_))
  rw[List.nil_append]at hS'
  refine agb rfl rfl rfl<|pq<|W.ret ?_
  exact mg (vs:=[v']) ⟨S',hS',.refl⟩

theorem aKa(main:Side)(h:Hp)(ss:List St)(p:List Be)(vf vs:Value)(hf1:one vf=true)(hs:Sl h St.row vs ss)(Du:p.length=4)(hn:ss.length≤4):dV prog main aAo #[.agg #[vf,vs],adu p] h [] (fun v A=>∃S,Os aw3 Be.row v (p.take ss.length) S∧Sb S A):=by
 obtain⟨a',cap',rfl⟩:=hs.dA
 have hsz:(flat Be.row p).toArray.size=8:=by simp[jT,Du]
 have hon:ones (flat Be.row p).toArray.toList=true:=aza
 refine dV.aG aCH rfl (by show 2≤11;decide) [(0,.agg #[vf,.slice a' ss.length cap']),(1,adu p)] ⟨rfl,rfl,trivial⟩ ?_
 refine W.seq<|W.region rfl ?_
 refine Ops.box (fun yR=>?_)
 refine Ops.box (fun uU=>?_)
 refine agb rfl rfl rfl<|pq<|W.seq<|W.region rfl ?_
 refine agY rfl ?_
 refine agY rfl ?_
 refine agX rfl ?_
 refine agW (dM rfl rfl) rfl ?_
 refine agW (NJ rfl rfl rfl) rfl ?_
 refine c0 (fun h' hE hL=>aIl _ h' (p.take ss.length) (.slice (some ⟨uU,0,none⟩) ss.length 4) (Sl.mk (hL uU _ (.head _)) (by rw[List.length_take];omega) ?_) (by rw[List.length_take];omega)) (fun v A' hv=>?_)
 ·refine⟨[],flat Be.row (p.drop ss.length),?_,rfl⟩
  rw[List.nil_append,←zk,List.take_append_drop]
  rfl
 obtain⟨S,hS,hsb⟩:=hv
 refine agb rfl rfl rfl<|pq<|W.ret ?_
 exact mg (vs:=[v]) ⟨S,hS,hsb.right (.cons rfl (.cons rfl .nil))⟩

def aye(fs:List Fl)(ss:List St):List Be×Int×Int:=if Y2 fs ss≠0 then([],0,Y2 fs ss)else(((awR fs ss).2.headD []).take ss.length,(awR fs ss).1,0)
theorem aHA(main:Side)(hS:∀S,main.ok S→∃Fin,S=Mn prog Fin)(hmb:main.b=true)(h:Hp)(fs:List Fl)(ss:List St)(vf vs:Value)(Eg:TypeId)(zg:Nat×Nat)(hf:Sl h Fl.row vf fs)(hs:Sl h St.row vs ss)(zf:Zs h vf)(zs:Zs h vs)
  (hg:h 0=some (.cells #[Ur qM] Eg zg)) (z0:h.z 0):dV prog main aC9 #[.agg #[vf,vs]] h [] (fun v A=>∃u S,v= .tuple #[u,I (aye fs ss).2.1,I (aye fs ss).2.2]∧Os aw3 Be.row u (aye fs ss).1 S∧Sb S A):=by
 obtain⟨a,cap,rfl⟩:=hf.dA
 obtain⟨a',cap',rfl⟩:=hs.dA
 refine dV.aG aEX rfl (by show 1≤24;decide) [(0,.agg #[.slice a fs.length cap,.slice a' ss.length cap'])] ⟨rfl,trivial⟩ ?_
 refine W.seq<|W.region rfl ?_
 refine Ops.box (fun β1=>?_)
 refine agb rfl rfl rfl<|agb rfl rfl rfl<|agb rfl rfl rfl<|pq<|W.seq<|W.seq<|W.region rfl ?_
 first | refine ag2 rfl ?_ | refine agW (ady rfl rfl) rfl ?_
 refine cp (fun h' hE hL=>aI4 _ h' _ _ _ _ (hf.ext hE) (hs.ext hE)) ?_
 refine agb rfl rfl rfl<|pq<|W.seq<|W.region rfl<|qm rfl rfl rfl ?_
 refine agW (nG rfl rfl rfl) rfl ?_
 refine pq ?_
 refine W.bC rfl (fun c10=>?_) (fun c10=>?_)
 ·refine W.seq<|W.region rfl<|qm rfl rfl rfl<|agb rfl rfl rfl<|agb rfl rfl rfl<|agb rfl rfl rfl<|pq<|W.ret<|aY ?_
  refine mg (vs:=[_,_,_]) ⟨.slice none 0 0,[],?_,?_,.nil (.cons rfl .nil)⟩
  ·simp only[aye];rw[if_pos c10];rfl
  ·simp only[aye];rw[if_pos c10];exact .nil .nil
 ·have h0:Y2 fs ss=0:=by simpa using c10
  have hall:=aFJ h0
  have hn4:=hall.ns
  obtain⟨p,r,hpr⟩:∃p r,(awR fs ss).2=p::r:=by
   cases h:(awR fs ss).2 with
   | nil=>exact absurd h (aEd hall)
   | cons p r=>exact⟨p,r,rfl⟩
  have Du:p.length=4:=aJg (aFA (hpr▸List.mem_cons_self ..))
  have hbB:aye fs ss=(p.take ss.length,(awR fs ss).1,0):=by simp only[aye];rw[if_neg c10,hpr];rfl
  refine W.skip<|aA<|W.seq<|W.region rfl ?_
  first | refine ag2 rfl ?_ | refine agW (ady rfl rfl) rfl ?_
  refine agW (eH (cs:= #[.slice a fs.length cap,.slice a' ss.length cap']) rfl rfl rfl) rfl ?_
  refine c0 (fun h' hE hL=>aaz _ hS hmb h' fs ss (.slice a fs.length cap) (.slice a' ss.length cap') Eg zg (hf.ext hE) (hs.ext hE) (zf.ext hE) (zs.ext hE) hall (hE.1 _ _ hg) (hE.2 _ z0)) (fun v A' hv=>?_)
  obtain⟨u,S,rfl,hO,hsb⟩:=hv
  obtain⟨ua,uc,rfl⟩:=hO.dA
  refine Ops.new (fun yC=>?_)
  first | refine Ops.jP ?_ | refine Ops.nY ?_
  refine pq ?_
  refine W.sb (F':=S++((yC,.cells #[I (awR fs ss).1,.slice ua (awR fs ss).2.length uc] aCQ (0,0))::[(β1,.cells #[.slice a fs.length cap,.slice a' ss.length cap'] ayn (0,0))])) ?_ ?_
  ·refine Sb.trans (Sb.dF List.perm_middle) (.cons (hsb.app .refl))
  refine JU hO (fun hx hEx hsl _=>?_)
  rw[hpr]at hsl⊢
  have hlen:0<(p::r).length:=Nat.succ_pos _
  obtain⟨b,off,c,E,fz,rfl,hb,hx1,hy1,hz1⟩:=hsl.at (i:=0) (p:=p) rfl
  have hx2:c.extract (off+0*8) (off+0*8+8)=(flat Be.row p).toArray:=by rw[hx1,aF3 Du]
  clear hx1 hz1
  refine W.seq ?_
  refine W.Ap (n:=12) rfl ?_
  first | refine dn 0 (Bf rfl rfl) rfl ?_ | refine dn 0 (zi rfl rfl) rfl ?_ | refine dn 0 (ady rfl rfl) rfl ?_
  refine dn 1 (eH rfl rfl rfl) rfl ?_
  refine dn 2 (ay rfl rfl) rfl ?_
  refine dn 3 (iQ rfl rfl) rfl ?_
  first | refine dn 4 (G_ rfl rfl rfl) rfl ?_ | refine dn 4 (o_ rfl rfl rfl) rfl ?_
  first | refine dn 5 (Bf rfl rfl) rfl ?_ | refine dn 5 (zi rfl rfl) rfl ?_ | refine dn 5 (ady rfl rfl) rfl ?_
  refine dn 7 (ay rfl rfl) rfl ?_
  refine dn 8 (iQ rfl rfl) rfl ?_
  refine ae (i:=6) rfl an rfl rfl (lQ (args:=[_,_]) rfl rfl (fun h' hE hL=>aKa _ h' ss p (.slice a fs.length cap) (.slice a' ss.length cap') rfl ((hs.ext hEx).ext hE) Du hn4) (fun v A2 hv=>?_))
  refine⟨.inr (fun q hq=>List.mem_append_right _ hq),?_⟩
  obtain⟨S2,hO2,Oh⟩:=hv
  refine dn 9 (jS rfl rfl) rfl ?_
  refine dn 10 (jS rfl rfl) rfl ?_
  refine dn 11 (jS rfl rfl) rfl ?_
  refine az ?_
  refine aA<|W.ret ?_
  refine mg (vs:=[_,_,_]) ⟨v,S2,?_,?_,?_⟩
  ·rw[hbB];rfl
  ·rw[hbB];exact hO2
  ·exact Oh.right (.cons rfl (.cons rfl .nil))
end Go.aS

/- A valid plan is in order; what 'asked' answers, in parts. Conditions: none. -/
namespace Go.aS
end Go.aS

/- What stands on a floor, as a sum; when a floor is cold. Conditions: none. -/
namespace Go.aS
theorem aCY{a b:Int}(h0:0≤a)(h1:a≤100000)(h2:0≤b)(h3:b≤100000):aAz a b=a+b:=nC (by omega) (by omega)
def ay2(g:Nat→Int):Nat→Int
 | 0=>0
 | k+1=>ay2 g k+g k
theorem aD2{g g':Nat→Int}:∀{k:Nat},(∀i,i<k→g i≤g' i)→ay2 g k≤ay2 g' k
 | 0,_=>Int.le_refl _
 | k+1,h=>by
  have h1:=aD2 (k:=k) fun i hi=>h i (by omega)
  have h2:=h k (by omega)
  simp only[ay2];omega
theorem ay6{g g':Nat→Int}:∀{k:Nat},(∀i,i<k→g i=g' i)→ay2 g k=ay2 g' k
 | 0,_=>rfl
 | k+1,h=>by
  have h1:=ay6 (k:=k) fun i hi=>h i (by omega)
  have h2:=h k (by omega)
  simp only[ay2];omega
def hiG(fs:List Fl)(ss:List St)(p:List Be)(f d:Int)(i:Nat):Int:=if(qw p i).fl=f∧(qw p i).day≤d∧d<(qw p i).day+(Wy fs f).hi then(ax6 ss i).co else 0
def loG(fs:List Fl)(ss:List St)(p:List Be)(f d:Int)(i:Nat):Int:=if(qw p i).fl=f∧(qw p i).day≤d∧d<(qw p i).day+(Wy fs f).lo then(ax6 ss i).co else 0
def aHX(fs:List Fl)(ss:List St)(p:List Be)(f d:Int):Int:=ay2 (hiG fs ss p f d) 4
def aL5(fs:List Fl)(ss:List St)(p:List Be)(f d:Int):Int:=ay2 (loG fs ss p f d) 4

theorem bump_at{d:List Sp}{i j:Nat}{b:Bool}{co:Int}{s:Sp}(h:d[j]? =some s):(bump d i b co)[j]? =some (if i=j then⟨if b then aAz s.lo co else s.lo,aAz s.hi co⟩else s):=by
 by_cases e:i=j
 ·subst e
  have hlt:i<d.length:=by
   rcases Nat.lt_or_ge i d.length with h' | h'
   ·exact h'
   ·rw[List.getElem?_eq_none h']at h;cases h
  simp only[bump,h,if_true,List.getElem?_set_self hlt]
 ·rw[if_neg e]
  unfold bump
  split
  ·rw[List.getElem?_set_ne e,h]
  ·exact h
theorem aGE{day lo co:Int}(aIh:0≤day)(hc:0≤co∧co≤1000){j:Nat}(hj:j<22):∀(m n:Nat) (D:List Sp) (s:Sp),D[j]? =some s→(day+n≤j→0≤s.lo∧s.lo≤90000∧0≤s.hi∧s.hi≤90000)→
  (ax3 day lo co m n D)[j]? =some (if day+n≤j∧(j:Int)<day+n+m then⟨if(j:Int)<day+lo then s.lo+co else s.lo,s.hi+co⟩else s)
 | 0,n,D,s,h,_=>by
  rw[ax3,h,if_neg (by omega)]
 | m+1,n,D,s,h,hs=>by
  rw[ax3]
  split
  ·rw[h,if_neg (by omega)]
  ·rename_i h21
   have hb:=bump_at (i:=(day+n).toNat) (b:=decide ((n:Int)<lo)) (co:=co) h
   have ih:=aGE (lo:=lo) aIh hc hj m (n+1) _ _ hb (fun hle=>by rw[if_neg (by omega)];exact hs (by omega))
   rw[ih]
   by_cases e:(day+n).toNat=j
   ·have e':day+n=j:=by omega
    obtain⟨q1,q2,q3,q4⟩:=hs (by omega)
    have c1:¬(day+((n+1:Nat):Int)≤j∧(j:Int)<day+((n+1:Nat):Int)+(m:Nat)):=by omega
    have c2:day+(n:Int)≤j∧(j:Int)<day+(n:Int)+((m+1:Nat):Int):=by omega
    rw[if_pos e,if_neg c1,if_pos c2,aCY q1 (by omega) hc.1 (by omega),aCY q3 (by omega) hc.1 (by omega)]
    by_cases hl:(n:Int)<lo
    ·rw[if_pos (show decide ((n:Int)<lo)=true by simpa using hl),if_pos (show(j:Int)<day+lo by omega)]
    ·rw[if_neg (show¬decide ((n:Int)<lo)=true by simpa using hl),if_neg (show¬(j:Int)<day+lo by omega)]
   ·rw[if_neg e]
    by_cases hc2:day+n≤j∧(j:Int)<day+n+((m+1:Nat):Int)
    ·rw[if_pos (show day+((n+1:Nat):Int)≤j∧(j:Int)<day+((n+1:Nat):Int)+(m:Nat) by omega),if_pos hc2]
    ·rw[if_neg (show¬(day+((n+1:Nat):Int)≤j∧(j:Int)<day+((n+1:Nat):Int)+(m:Nat)) by omega),if_neg hc2]

theorem aJk{α:Type}(g:α→Int){l l':List α}(h:l.Perm l'):(l.map g).sum=(l'.map g).sum:=by
 induction h with
 | nil=>rfl
 | cons x _ ih=>simp only[List.map_cons,List.sum_cons,ih]
 | swap x y l=>simp only[List.map_cons,List.sum_cons];omega
 | trans _ _ ih1 ih2=>exact ih1.trans ih2
theorem aEF{p:List Be}{f:Int}{g:Int→Int}:∀(k:Nat),((azX p f k).map g).sum=ay2 (fun i=>if(qw p i).fl=f then g i else 0) k
 | 0=>rfl
 | k+1=>by
  simp only[azX,ay2]
  by_cases h:(qw p k).fl=f
  ·rw[if_pos h,if_pos h,List.map_append,List.sum_append,aEF k];simp
  ·rw[if_neg h,if_neg h,aEF k];simp
theorem aJl{fs:List Fl}{ss:List St}(hall:Ju fs ss)(i:Nat):0≤(ax6 ss i).co∧(ax6 ss i).co≤6:=by
 simp only[ax6,List.getD]
 cases h:ss[i]? with
 | none=>simp
 | some s=>have:=hall.st s (List.mem_of_getElem? h);simp;omega
theorem aEf{p:List Be}(hp:aAy p)(i:Nat):0≤(qw p i).day∧(qw p i).day≤17:=by
 rcases Nat.lt_or_ge i 4 with h | h
 ·have:=(aw8 hp h).2;omega
 ·simp[qw,List.getD,List.getElem?_eq_none (show p.length≤i by have:=hp.len;omega),TL]
theorem aKu{fs:List Fl}{ss:List St}(hall:Ju fs ss){f:Int}(h0:0≤f)(h1:f<fs.length):1≤(Wy fs f).pl∧(Wy fs f).pl≤9∧1≤(Wy fs f).lo∧(Wy fs f).lo≤(Wy fs f).hi∧(Wy fs f).hi≤6∧0≤(Wy fs f).co∧(Wy fs f).co≤9:=by
 obtain⟨x,hx,-⟩:=has (show f.toNat<fs.length by omega)
 have:Wy fs f=x:=by simp[Wy,List.getD,hx]
 rw[this]
 exact hall.fl x (List.mem_of_getElem? hx)

theorem aAd{fs:List Fl}{ss:List St}{p:List Be}{f:Int}(hall:Ju fs ss)(hp:aAy p)(h0:0≤f)(h1:f<fs.length){j:Nat}(hj:j<22):(aw4 fs ss p f)[j]? =some ⟨aL5 fs ss p f j,aHX fs ss p f j⟩:=by
 have hfl:=aKu hall h0 h1
 have key:∀(l:List Int) (D:List Sp) (s:Sp),D[j]? =some s→0≤s.lo→0≤s.hi→s.lo+6*l.length≤9000→s.hi+6*l.length≤9000→
   (l.foldl (fun d i=>ax3 (dayOf p i) (Wy fs f).lo (azo ss i) (Wy fs f).hi.toNat 0 d) D)[j]? =some ⟨s.lo+(l.map fun i=>if dayOf p i≤j∧(j:Int)<dayOf p i+(Wy fs f).lo then azo ss i else 0).sum,s.hi+(l.map fun i=>if dayOf p i≤j∧(j:Int)<dayOf p i+(Wy fs f).hi then azo ss i else 0).sum⟩:=by
  intro l
  induction l with
  | nil=>intro D s h _ _ _ _;simpa using h
  | cons i l ih=>
   intro D s h q1 q2 q3 q4
   have hco:=aJl hall i.toNat
   have aIh:=(aEf hp i.toNat).1
   have ha:=aGE (day:=dayOf p i) (lo:=(Wy fs f).lo) (co:=azo ss i) aIh (by have:azo ss i=(ax6 ss i.toNat).co:=rfl;omega) hj (Wy fs f).hi.toNat 0 D s h (fun _=>by simp only[List.length_cons]at q3 q4;omega)
   have aNJ:azo ss i=(ax6 ss i.toNat).co:=rfl
   simp only[List.length_cons]at q3 q4
   rw[List.foldl_cons]
   by_cases hc:dayOf p i+((0:Nat):Int)≤j∧(j:Int)<dayOf p i+((0:Nat):Int)+(Wy fs f).hi.toNat
   ·rw[if_pos hc]at ha
    by_cases hl:(j:Int)<dayOf p i+(Wy fs f).lo
    ·rw[if_pos hl]at ha
     rw[ih _ _ ha (by simp only;omega) (by simp only;omega) (by simp only;omega) (by simp only;omega)]
     simp only[List.map_cons,List.sum_cons]
     rw[if_pos (show dayOf p i≤j∧(j:Int)<dayOf p i+(Wy fs f).lo by omega),if_pos (show dayOf p i≤j∧(j:Int)<dayOf p i+(Wy fs f).hi by omega),Int.add_assoc,Int.add_assoc]
    ·rw[if_neg hl]at ha
     rw[ih _ _ ha (by simp only;omega) (by simp only;omega) (by simp only;omega) (by simp only;omega)]
     simp only[List.map_cons,List.sum_cons]
     rw[if_neg (show¬(dayOf p i≤j∧(j:Int)<dayOf p i+(Wy fs f).lo) by omega),if_pos (show dayOf p i≤j∧(j:Int)<dayOf p i+(Wy fs f).hi by omega),Int.add_assoc,Int.zero_add]
   ·rw[if_neg hc]at ha
    rw[ih _ _ ha q1 q2 (by omega) (by omega)]
    simp only[List.map_cons,List.sum_cons]
    rw[if_neg (show¬(dayOf p i≤j∧(j:Int)<dayOf p i+(Wy fs f).lo) by omega),if_neg (show¬(dayOf p i≤j∧(j:Int)<dayOf p i+(Wy fs f).hi) by omega),Int.zero_add,Int.zero_add]
 have h00:aDm[j]? =some ⟨0,0⟩:=by
  simp only[aDm,List.getElem?_replicate,hj,if_true]
 have hlen:=aGw (p:=p) (f:=f)
 have:=key (JL p f) aDm ⟨0,0⟩ h00 (Int.le_refl _) (Int.le_refl _) (by simp only;omega) (by simp only;omega)
 rw[aw4,this]
 have e:∀g:Int→Int,((JL p f).map g).sum=ay2 (fun i=>if(qw p i).fl=f then g i else 0) 4:=fun g=>by
  rw[JL,aJk g (aAb _ _),aEF]
 rw[e,e]
 simp only[Int.zero_add,aL5,aHX]
 congr 2
 ·refine ay6 fun i _=>?_
  simp only[loG,dayOf,azo,Int.toNat_natCast,ax6]
  by_cases h1:(qw p i).fl=f <;>simp[h1]
 ·refine ay6 fun i _=>?_
  simp only[hiG,dayOf,azo,Int.toNat_natCast,ax6]
  by_cases h1:(qw p i).fl=f <;>simp[h1]

/-! The first day that is too full -/
theorem aEG{pl:Int}:∀{D:List Sp} {k:Nat},ayi pl D k=none↔∀(i:Nat) (s:Sp),D[i]? =some s→s.hi≤pl
 | [],k=>by simp[ayi]
 | s::D,k=>by
  rw[ayi]
  split
  ·rename_i h
   constructor
   ·intro h';cases h'
   ·intro h';have:=h' 0 s rfl;omega
  ·rename_i h
   rw[aEG (D:=D) (k:=k+1)]
   constructor
   ·intro h' i t ht
    cases i with
    | zero=>simp at ht;subst ht;omega
    | succ i=>exact h' i t (by simpa using ht)
   ·intro h' i t ht;exact h' (i+1) t (by simpa using ht)
theorem aEH{pl:Int}:∀{D:List Sp} {k:Nat} {q:Bool×Int},ayi pl D k=some q→q.1=false∧∃(i:Nat) (s:Sp),q.2=((k+i:Nat):Int)∧D[i]? =some s∧pl<s.hi∧∀(i':Nat) (s':Sp),i'<i→D[i']? =some s'→s'.hi≤pl
 | [],k,q,h=>by cases h
 | s::D,k,q,h=>by
  rw[ayi]at h
  split at h
  ·rename_i h1
   cases h
   exact⟨rfl,0,s,rfl,rfl,h1,fun i' s' hi=>by omega⟩
  ·rename_i h1
   obtain⟨h2,i,t,h3,h4,h5,h6⟩:=aEH h
   refine⟨h2,i+1,t,by rw[h3];congr 1;omega,by simpa using h4,h5,fun i' s' hi hs=>?_⟩
   cases i' with
   | zero=>simp at hs;subst hs;omega
   | succ i'=>exact h6 i' s' (by omega) (by simpa using hs)
theorem aGF{pl:Int}:∀{D:List Sp},over pl D=true↔∃(i:Nat) (s:Sp),D[i]? =some s∧pl<s.hi
 | []=>by simp[over]
 | s::D=>by
  rw[over]
  split
  ·rename_i h
   exact⟨fun _=>⟨0,s,rfl,h⟩,fun _=>rfl⟩
  ·rename_i h
   rw[aGF (D:=D)]
   constructor
   ·rintro⟨i,t,h1,h2⟩;exact⟨i+1,t,by simpa using h1,h2⟩
   ·rintro⟨i,t,h1,h2⟩
    cases i with
    | zero=>simp at h1;subst h1;exact absurd h2 h
    | succ i=>exact⟨i,t,by simpa using h1,h2⟩

/-! Sorted -/
abbrev Srt(key:Int→Int)(l:List Int):Prop:=l.Pairwise fun a b=>key a≤key b
theorem aGG{key:Int→Int}:∀(j:Nat) (A C:List Int) (x:Int),A.length=j→Srt key A→∃R,sink key j (A++x::C)=R++C∧R.length=j+1∧Srt key R∧R.Perm (x::A)
 | 0,A,C,x,h,_=>by
  have:A=[]:=List.length_eq_zero_iff.1 h
  subst this
  exact⟨[x],rfl,rfl,List.pairwise_singleton _ _,.refl _⟩
 | j+1,A,C,x,h,hs=>by
  obtain⟨A',a,rfl⟩:∃A' a,A=A'++[a]:=⟨A.dropLast,A.getLast (by intro e;subst e;simp at h),(List.dropLast_concat_getLast _).symm⟩
  have hl:A'.length=j:=by simpa using h
  have ha:(A'++[a]++x::C)[j]? =some a:=by simp[←hl]
  have hx:(A'++[a]++x::C)[j+1]? =some x:=by simp[←hl]
  rw[Srt,List.pairwise_append]at hs
  rw[sink]
  simp only[ha,hx]
  split
  ·rename_i hk
   have e:swp (A'++[a]++x::C) j a x=A'++x::a::C:=by
    simp[swp,←hl,List.set_append]
   rw[e]
   obtain⟨R,h1,h2,h3,h4⟩:=aGG j A' (a::C) x hl hs.1
   refine⟨R++[a],by rw[h1];simp,by simp[h2],?_,?_⟩
   ·rw[Srt,List.pairwise_append]
    refine⟨h3,List.pairwise_singleton _ _,fun b hb c hc=>?_⟩
    have hc':c=a:=by simpa using hc
    subst hc'
    rcases List.mem_cons.1 (h4.subset hb)with rfl | hb
    ·omega
    ·exact hs.2.2 b hb c (by simp)
   ·exact(h4.append_right [a])
  ·rename_i hk
   refine⟨A'++[a,x],by simp,by simp[hl],?_,?_⟩
   ·rw[Srt,List.pairwise_append]
    refine⟨hs.1,by simp;omega,fun b hb c hc=>?_⟩
    have hba:=hs.2.2 b hb a (by simp)
    rcases List.mem_cons.1 hc with rfl | hc
    ·exact hba
    ·have:c=x:=by simpa using hc
     subst this;omega
   ·have:(A'++[a,x])=(A'++[a])++[x]:=by simp
    rw[this]
    exact List.perm_append_comm
theorem aEI{key:Int→Int}{l:List Int}:∀i,i<l.length→∃R,ayQ key l i=R++l.drop (i+1)∧R.length=i+1∧Srt key R
 | 0,h=>by
  obtain⟨x,hx,hd⟩:=has h
  exact⟨[x],by rw[ayQ];simpa using hd,rfl,List.pairwise_singleton _ _⟩
 | i+1,h=>by
  obtain⟨R,h1,h2,h3⟩:=aEI (key:=key) (l:=l) i (by omega)
  obtain⟨x,hx,hd⟩:=has h
  rw[ayQ,h1,hd]
  obtain⟨R',h4,h5,h6,-⟩:=aGG (key:=key) (i+1) R (l.drop (i+2)) x h2 h3
  exact⟨R',h4,h5,h6⟩
theorem aIm{key:Int→Int}{l:List Int}:Srt key (aDj key l):=by
 rcases Nat.eq_zero_or_pos l.length with h | h
 ·have:l=[]:=List.length_eq_zero_iff.1 h
  subst this;exact .nil
 ·obtain⟨R,h1,h2,h3⟩:=aEI (key:=key) (l.length-1) (show l.length-1<l.length by omega)
  rw[aDj,h1,List.drop_eq_nil_of_le (by omega),List.append_nil]
  exact h3

/-! When a floor is cold -/
def azQ(co lo:Int):List Int→Int→Option Int
 | [],_=>none
 | d::r,u=>if 0≤u∧u+co<d then some (u+co)else azQ co lo r (max u (d+lo))
def merge(fd:ayl)(c:Option Int):ayl:=match c with
 | none=>fd
 | some n=>if early n fd=true then some (true,n)else fd
theorem aEJ{co lo:Int}(hlo:0≤lo):∀{l:List Int} {u n:Int},azQ co lo l u=some n→u+co≤n
 | [],_,_,h=>by cases h
 | d::r,u,n,h=>by
  rw[azQ]at h
  split at h
  ·cases h;exact Int.le_refl _
  ·have:=aEJ hlo h;omega
theorem aEK{co lo:Int}(hlo:1≤lo∧lo≤6)(hco:0≤co∧co≤9):∀(ds:List Int) (fd:ayl) (u:Int),-1≤u→u≤100→(∀d∈ds,0≤d∧d≤17)→(ds.foldl (fun s d=>aAM co lo d s) (fd,u)).1=merge fd (azQ co lo ds u)
 | [],fd,u,_,_,_=>rfl
 | d::r,fd,u,h1,h2,hd=>by
  have hd0:=hd d (List.mem_cons_self ..)
  have ew:aAz u co=u+co:=nC (by omega) (by omega)
  have hm:max u (d+lo)≤100∧-1≤max u (d+lo):=by omega
  rw[List.foldl_cons,aAM,aEK hlo hco r _ _ hm.2 hm.1 (fun x hx=>hd x (List.mem_cons_of_mem _ hx)),ew,azQ]
  simp only
  by_cases hc:0≤u∧u+co<d
  ·rw[if_pos hc]
   have hge:∀n,azQ co lo r (max u (d+lo))=some n→u+co<n:=fun n hn=>by
    have:=aEJ (by omega) hn;omega
   have hmm:∀fd',(fd'=some (true,u+co)∨early (u+co) fd'=false)→merge fd' (azQ co lo r (max u (d+lo)))=fd':=by
    intro fd' hf
    cases hn:azQ co lo r (max u (d+lo))with
    | none=>rfl
    | some n=>
     have:=hge n hn
     simp only[merge]
     rw[if_neg]
     rcases hf with rfl | hf
     ·simp[early];omega
     ·cases fd' with
      | none=>simp[early]at hf
      | some q=>simp[early]at hf⊢;omega
   by_cases he:early (u+co) fd=true
   ·rw[if_pos ⟨hc.1,hc.2,he⟩,hmm _ (.inl rfl)]
    simp[merge,he]
   ·rw[if_neg (fun h=>he h.2.2),hmm _ (.inr (by simpa using he))]
    simp[merge,he]
  ·rw[if_neg (fun h=>hc ⟨h.1,h.2.1⟩),if_neg hc]
theorem aHr{fd:ayl}{c:Option Int}:merge fd c=none↔fd=none∧c=none:=by
 cases c with
 | none=>simp[merge]
 | some n=>
  simp only[merge]
  constructor
  ·intro h
   split at h
   ·cases h
   ·rename_i h1;subst h;simp[early]at h1
  ·rintro⟨_,h⟩;cases h
theorem aFB{co lo:Int}(hlo:1≤lo):∀{ds:List Int} {e:Int},0≤e→(∀d∈ds,e≤d)→ds.Pairwise (·≤·)→
  (∀n,azQ co lo ds (e+lo)=some n→∃a,(a=e∨a∈ds)∧n=a+lo+co∧(∃b∈ds,n<b)∧∀b∈ds,b≤a∨n<b)∧
  (azQ co lo ds (e+lo)=none→∀a,(a=e∨a∈ds)→∀b∈ds,a+lo+co<b→∃c∈ds,a<c∧c≤a+lo+co)∧
  (∀n,azQ co lo ds (e+lo)=some n→∀a,(a=e∨a∈ds)→a+lo+co<n→∀b∈ds,a+lo+co<b→∃c∈ds,a<c∧c≤a+lo+co)
 | [],e,_,_,_=>⟨fun n h=>(by cases h),fun _ a _ b hb=>(by simp at hb),fun n h=>(by cases h)⟩
 | d::r,e,h0,hge,hs=>by
  have hd:=hge d (List.mem_cons_self ..)
  rw[List.pairwise_cons]at hs
  have hm:max (e+lo) (d+lo)=d+lo:=by omega
  have he0:0≤e+lo:=by omega
  rw[azQ,hm]
  by_cases hc:0≤e+lo∧e+lo+co<d
  ·rw[if_pos hc]
   refine⟨fun n h=>?_,fun h=>(by cases h),fun n h a ha hlt=>?_⟩
   ·cases h
    refine⟨e,.inl rfl,rfl,⟨d,List.mem_cons_self ..,hc.2⟩,fun b hb=>.inr ?_⟩
    rcases List.mem_cons.1 hb with rfl | hb
    ·exact hc.2
    ·have:=hs.1 b hb;omega
   ·cases h
    rcases ha with rfl | ha
    ·omega
    ·have:=hge a ha;omega
  ·rw[if_neg hc]
   have hne:¬e+lo+co<d:=fun h=>hc ⟨he0,h⟩
   obtain⟨i1,i2,i3⟩:=aFB (co:=co) hlo (ds:=r) (e:=d) (by omega) hs.1 hs.2
   have step:(∀a,(a=d∨a∈r)→∀b∈r,a+lo+co<b→∃c∈r,a<c∧c≤a+lo+co)→∀a,(a=e∨a∈d::r)→∀b∈d::r,a+lo+co<b→∃c∈d::r,a<c∧c≤a+lo+co:=by
    intro H a ha b hb hlt
    have hb':b∈r∨b=d:=(List.mem_cons.1 hb).symm
    rcases ha with rfl | ha
    ·
     rcases hb' with hb' | rfl
     ·by_cases hde:a<d
      ·exact⟨d,List.mem_cons_self ..,hde,by omega⟩
      ·have:d=a:=by omega
       subst this
       obtain⟨c,hc1,hc2⟩:=H d (.inl rfl) b hb' hlt
       exact⟨c,List.mem_cons_of_mem _ hc1,hc2⟩
     ·omega
    ·have ha':a=d∨a∈r:=List.mem_cons.1 ha
     rcases hb' with hb' | rfl
     ·obtain⟨c,hc1,hc2⟩:=H a ha' b hb' hlt
      exact⟨c,List.mem_cons_of_mem _ hc1,hc2⟩
     ·rcases ha' with rfl | ha'
      ·omega
      ·have:=hs.1 a ha';omega
   refine⟨fun n h=>?_,fun h=>step (i2 h),fun n h=>?_⟩
   ·obtain⟨a,ha,hn,⟨b,hb,hb2⟩,hall⟩:=i1 n h
    have had:d≤a:=by
     rcases ha with rfl | ha
     ·exact Int.le_refl _
     ·exact hs.1 a ha
    refine⟨a,.inr (by rcases ha with rfl | ha <;>simp[*]),hn,⟨b,List.mem_cons_of_mem _ hb,hb2⟩,fun c hc=>?_⟩
    rcases List.mem_cons.1 hc with rfl | hc
    ·exact .inl had
    ·exact hall c hc
   ·intro a ha hlt b hb hlt2
    have hn:=aEJ (by omega) h
    rcases ha with rfl | ha
    ·by_cases hde:a<d
     ·exact⟨d,List.mem_cons_self ..,hde,by omega⟩
     ·have hda:d=a:=by omega
      subst hda
      rcases List.mem_cons.1 hb with rfl | hb
      ·omega
      ·obtain⟨c,hc1,hc2⟩:=i3 n h d (.inl rfl) hlt b hb hlt2
       exact⟨c,List.mem_cons_of_mem _ hc1,hc2⟩
    ·rcases List.mem_cons.1 ha with rfl | ha
     ·rcases List.mem_cons.1 hb with rfl | hb
      ·omega
      ·obtain⟨c,hc1,hc2⟩:=i3 n h a (.inl rfl) hlt b hb hlt2
       exact⟨c,List.mem_cons_of_mem _ hc1,hc2⟩
     ·have:=hs.1 a ha
      rcases List.mem_cons.1 hb with rfl | hb
      ·omega
      ·obtain⟨c,hc1,hc2⟩:=i3 n h a (.inr ha) hlt b hb hlt2
       exact⟨c,List.mem_cons_of_mem _ hc1,hc2⟩
end Go.aS

/- Which plans are wrong, where, and when; which plans a search finds. Conditions: none. -/
namespace Go.aS
def aCB(p:List Be)(f a:Int):Prop:=∃i,i<4∧(qw p i).fl=f∧(qw p i).day=a
def aKb(fs:List Fl)(p:List Be)(f n:Int):Prop:=∃a,aCB p f a∧n=a+(Wy fs f).lo+(Wy fs f).co∧(∃b,aCB p f b∧n<b)∧∀b,aCB p f b→b≤a∨n<b
def Full(fs:List Fl)(ss:List St)(p:List Be)(f n:Int):Prop:=0≤n∧n<22∧(Wy fs f).pl<aHX fs ss p f n
def Bad(fs:List Fl)(ss:List St)(p:List Be)(f n:Int):Prop:=Full fs ss p f n∨aKb fs p f n

theorem aEL{p:List Be}{f:Int}:∀{k:Nat} {a:Int},a∈azX p f k↔∃i,i<k∧(qw p i).fl=f∧a=(i:Int)
 | 0,a=>by simp[azX]
 | k+1,a=>by
  rw[azX]
  split
  ·rename_i h
   rw[List.mem_append,aEL (k:=k)]
   constructor
   ·rintro(⟨i,h1,h2,h3⟩ | h1)
    ·exact⟨i,by omega,h2,h3⟩
    ·exact⟨k,by omega,h,by simpa using h1⟩
   ·rintro⟨i,h1,h2,h3⟩
    by_cases e:i=k
    ·subst e;right;simpa using h3
    ·left;exact⟨i,by omega,h2,h3⟩
  ·rename_i h
   rw[aEL (k:=k)]
   constructor
   ·rintro⟨i,h1,h2,h3⟩;exact⟨i,by omega,h2,h3⟩
   ·rintro⟨i,h1,h2,h3⟩
    by_cases e:i=k
    ·subst e;exact absurd h2 h
    ·exact⟨i,by omega,h2,h3⟩
theorem aGH{p:List Be}{f a:Int}:a∈(JL p f).map (dayOf p)↔aCB p f a:=by
 simp only[List.mem_map,JL,(aAb _ _).mem_iff,aEL,aCB]
 constructor
 ·rintro⟨x,⟨i,h1,h2,rfl⟩,h3⟩;exact⟨i,h1,h2,by simpa[dayOf]using h3⟩
 ·rintro⟨i,h1,h2,h3⟩;exact⟨i,⟨i,h1,h2,rfl⟩,by simpa[dayOf]using h3⟩
theorem aGI{p:List Be}{f a:Int}(hp:aAy p)(h:aCB p f a):0≤a∧a≤17:=by
 obtain⟨i,_,_,rfl⟩:=h
 exact aEf hp i

theorem aGJ{fs:List Fl}{ss:List St}{p:List Be}{f:Int}(hall:Ju fs ss)(hp:aAy p)(h0:0≤f)(h1:f<fs.length):
  ∃c,aA_ fs ss p f=merge (ayi (Wy fs f).pl (aw4 fs ss p f) 0) c∧(∀n,c=some n→aKb fs p f n∧∀n',n'<n→¬aKb fs p f n')∧(c=none→∀n,¬aKb fs p f n):=by
 have hfl:=aKu hall h0 h1
 refine⟨azQ (Wy fs f).co (Wy fs f).lo ((JL p f).map (dayOf p)) (-1),?_,?_⟩
 ·rw[←aEK ⟨hfl.2.2.1,by omega⟩ ⟨hfl.2.2.2.2.2.1,hfl.2.2.2.2.2.2⟩ _ _ _ (Int.le_refl _) (by decide) (fun d hd=>aGI hp (aGH.1 hd)),aA_,List.foldl_map]
 have hs:((JL p f).map (dayOf p)).Pairwise (·≤·):=by
  rw[List.pairwise_map];exact aIm
 have hd:∀a,a∈(JL p f).map (dayOf p)↔aCB p f a:=fun a=>aGH
 cases hl:(JL p f).map (dayOf p)with
 | nil=>
  rw[hl]at hd
  refine⟨fun n h=>(by cases h),fun _ n hn=>?_⟩
  obtain⟨a,ha,_⟩:=hn
  have:=(hd a).2 ha
  cases this
 | cons d r=>
  rw[hl]at hs hd
  rw[List.pairwise_cons]at hs
  have hd0:=(aGI hp ((hd d).1 (List.mem_cons_self ..))).1
  have e:azQ (Wy fs f).co (Wy fs f).lo (d::r) (-1)=azQ (Wy fs f).co (Wy fs f).lo r (d+(Wy fs f).lo):=by
   rw[azQ,if_neg (by omega)];congr 1;omega
  obtain⟨i1,i2,i3⟩:=aFB (co:=(Wy fs f).co) hfl.2.2.1 (ds:=r) (e:=d) hd0 hs.1 hs.2
  have hm:∀a,(a=d∨a∈r)↔aCB p f a:=fun a=>by rw[←hd];exact List.mem_cons.symm
  have hr:∀a b,aCB p f a→aCB p f b→a<b→b∈r:=fun a b ha hb hlt=>by
   rcases(hm b).2 hb with rfl | h
   ·rcases(hm a).2 ha with rfl | h'
    ·omega
    ·have:=hs.1 a h';omega
   ·exact h
  rw[e]
  refine⟨fun n h=>⟨?_,fun n' hn' hc=>?_⟩,fun h n hc=>?_⟩
  ·obtain⟨a,ha,hn,⟨b,hb,hb2⟩,hal⟩:=i1 n h
   refine⟨a,(hm a).1 ha,hn,⟨b,(hm b).1 (.inr hb),hb2⟩,fun c hc=>?_⟩
   rcases(hm c).2 hc with rfl | hc
   ·left
    rcases ha with rfl | ha
    ·exact Int.le_refl _
    ·exact hs.1 a ha
   ·exact hal c hc
  ·obtain⟨a,ha,rfl,⟨b,hb,hb2⟩,hal⟩:=hc
   obtain⟨c,hc1,hc2,hc3⟩:=i3 n h a ((hm a).2 ha) hn' b (hr a b ha hb (by omega)) hb2
   have:=hal c ((hm c).1 (.inr hc1));omega
  ·obtain⟨a,ha,rfl,⟨b,hb,hb2⟩,hal⟩:=hc
   obtain⟨c,hc1,hc2,hc3⟩:=i2 h a ((hm a).2 ha) b (hr a b ha hb (by omega)) hb2
   have:=hal c ((hm c).1 (.inr hc1));omega

theorem aFC{fs:List Fl}{ss:List St}{p:List Be}{f:Int}(hall:Ju fs ss)(hp:aAy p)(h0:0≤f)(h1:f<fs.length):ayi (Wy fs f).pl (aw4 fs ss p f) 0=none↔∀n,¬Full fs ss p f n:=by
 rw[aEG]
 constructor
 ·rintro h n ⟨n0,n1,n2⟩
  obtain⟨j,rfl⟩:∃j:Nat,n=j:=⟨n.toNat,by omega⟩
  have:=h j _ (aAd hall hp h0 h1 (by omega))
  simp only at this;omega
 ·intro h i s hs
  have hi:i<22:=by
   rcases Nat.lt_or_ge i 22 with h' | h'
   ·exact h'
   ·rw[List.getElem?_eq_none (by rw[azp];exact h')]at hs;cases hs
  rw[aAd hall hp h0 h1 hi]at hs
  cases hs
  exact Int.not_lt.1 fun hlt=>h i ⟨by omega,by omega,hlt⟩
theorem aIn{fs:List Fl}{ss:List St}{p:List Be}{f:Int}{q:Bool×Int}(hall:Ju fs ss)(hp:aAy p)(h0:0≤f)(h1:f<fs.length)(h:ayi (Wy fs f).pl (aw4 fs ss p f) 0=some q):Full fs ss p f q.2∧∀n',n'<q.2→¬Full fs ss p f n':=by
 obtain⟨-,i,s,h2,h3,h4,h5⟩:=aEH h
 have hi:i<22:=by
  rcases Nat.lt_or_ge i 22 with h' | h'
  ·exact h'
  ·rw[List.getElem?_eq_none (by rw[azp];exact h')]at h3;cases h3
 rw[aAd hall hp h0 h1 hi]at h3
 cases h3
 rw[Nat.zero_add]at h2
 rw[h2]
 refine⟨⟨by omega,by omega,h4⟩,?_⟩
 rintro n' hn' ⟨q0,q1,q2⟩
 obtain⟨j,rfl⟩:∃j:Nat,n'=j:=⟨n'.toNat,by omega⟩
 have:=h5 j _ (by omega) (aAd hall hp h0 h1 (by omega))
 simp only at this;omega

theorem aIo{fs:List Fl}{ss:List St}{p:List Be}{f:Int}(hall:Ju fs ss)(hp:aAy p)(h0:0≤f)(h1:f<fs.length):aA_ fs ss p f=none↔∀n,¬Bad fs ss p f n:=by
 obtain⟨c,hc,hs,hn⟩:=aGJ hall hp h0 h1
 rw[hc,aHr,aFC hall hp h0 h1]
 constructor
 ·rintro⟨h2,h3⟩ n (hb | hb)
  ·exact h2 n hb
  ·exact hn h3 n hb
 ·intro h
  refine⟨fun n hb=>h n (.inl hb),?_⟩
  cases c with
  | none=>rfl
  | some n=>exact absurd (.inr (hs n rfl).1) (h n)
theorem aIp{fs:List Fl}{ss:List St}{p:List Be}{f:Int}{q:Bool×Int}(hall:Ju fs ss)(hp:aAy p)(h0:0≤f)(h1:f<fs.length)(h:aA_ fs ss p f=some q):Bad fs ss p f q.2∧∀n',n'<q.2→¬Bad fs ss p f n':=by
 obtain⟨c,hc,hs,hn⟩:=aGJ hall hp h0 h1
 rw[hc]at h
 cases hf:ayi (Wy fs f).pl (aw4 fs ss p f) 0 with
 | none=>
  rw[hf]at h
  have hf':=(aFC hall hp h0 h1).1 hf
  cases c with
  | none=>cases h
  | some n=>
   have:q=(true,n):=by simpa[merge,early]using h.symm
   subst this
   obtain⟨a1,a2⟩:=hs n rfl
   exact⟨.inr a1,fun n' hn' hb=>hb.elim (hf' n') (a2 n' hn')⟩
 | some q'=>
  rw[hf]at h
  obtain⟨b1,b2⟩:=aIn hall hp h0 h1 hf
  cases c with
  | none=>
   have:q'=q:=by simpa[merge]using h
   subst this
   exact⟨.inl b1,fun n' hn' hb=>hb.elim (b2 n' hn') (hn rfl n')⟩
  | some n=>
   obtain⟨a1,a2⟩:=hs n rfl
   simp only[merge,early,decide_eq_true_eq]at h
   split at h
   ·rename_i hlt
    have:q=(true,n):=by simpa using h.symm
    subst this
    exact⟨.inr a1,fun n' hn' hb=>hb.elim (b2 n' (by simp only at hn';omega)) (a2 n' hn')⟩
   ·rename_i hlt
    have:q'=q:=by simpa using h
    subst this
    exact⟨.inl b1,fun n' hn' hb=>hb.elim (b2 n' hn') (a2 n' (by omega))⟩

theorem aEM{fs:List Fl}{ss:List St}{p:List Be}(hall:Ju fs ss)(hp:aAy p):∀k,k≤fs.length→
  (azq fs ss p k=none→∀f:Int,0≤f→f<k→∀n,¬Bad fs ss p f n)∧
  (∀c n f,azq fs ss p k=some ((c,n),f)→0≤f∧f<k∧Bad fs ss p f n∧∀g n':Int,0≤g→g<k→Bad fs ss p g n'→n<n'∨n=n'∧f≤g)
 | 0,_=>⟨fun _ f h0 h1=>by omega,fun c n f h=>(by cases h)⟩
 | k+1,hk=>by
  obtain⟨i1,i2⟩:=aEM hall hp k (by omega)
  have l1:=aIo hall hp (show(0:Int)≤k by omega) (show(k:Int)<fs.length by omega)
  have l2:=fun q=>aIp (q:=q) hall hp (show(0:Int)≤k by omega) (show(k:Int)<fs.length by omega)
  rw[azq]
  cases hl:aA_ fs ss p k with
  | none=>
   have l1':=l1.1 hl
   simp only[aFq]
   refine⟨fun h f h0 h1 n=>?_,fun c n f h=>?_⟩
   ·by_cases e:f=k
    ·subst e;exact l1' n
    ·exact i1 h f h0 (by omega) n
   ·obtain⟨a0,a1,a2,a3⟩:=i2 c n f h
    refine⟨a0,by omega,a2,fun g n' g0 g1 hb=>?_⟩
    by_cases e:g=k
    ·subst e;exact absurd hb (l1' n')
    ·exact a3 g n' g0 (by omega) hb
  | some z=>
   obtain⟨z1,z2⟩:=l2 z hl
   simp only[aFq]
   cases hi:azq fs ss p k with
   | none=>
    simp only[aHK,if_true]
    refine⟨fun h=>(by cases h),fun c n f h=>?_⟩
    simp only[Option.some.injEq,Prod.mk.injEq]at h
    obtain⟨rfl,rfl⟩:=h
    refine⟨by omega,by omega,z1,fun g n' g0 g1 hb=>?_⟩
    by_cases e:g=k
    ·subst e
     rcases Int.lt_trichotomy n n' with h | h | h
     ·exact .inl h
     ·exact .inr ⟨h,Int.le_refl _⟩
     ·exact absurd hb (z2 n' h)
    ·exact absurd hb (i1 hi g g0 (by omega) n')
   | some w=>
    obtain⟨⟨cw,nw⟩,fw⟩:=w
    obtain⟨a0,a1,a2,a3⟩:=i2 cw nw fw hi
    simp only[aHK,decide_eq_true_eq]
    split
    ·rename_i hlt
     refine⟨fun h=>(by cases h),fun c n f h=>?_⟩
     simp only[Option.some.injEq,Prod.mk.injEq]at h
     obtain⟨rfl,rfl⟩:=h
     refine⟨by omega,by omega,z1,fun g n' g0 g1 hb=>?_⟩
     by_cases e:g=k
     ·subst e
      rcases Int.lt_trichotomy n n' with h | h | h
      ·exact .inl h
      ·exact .inr ⟨h,Int.le_refl _⟩
      ·exact absurd hb (z2 n' h)
     ·have:=a3 g n' g0 (by omega) hb
      simp only at hlt;left;omega
    ·rename_i hlt
     refine⟨fun h=>(by cases h),fun c n f h=>?_⟩
     simp only[Option.some.injEq,Prod.mk.injEq]at h
     obtain⟨⟨rfl,rfl⟩,rfl⟩:=h
     refine⟨a0,by omega,a2,fun g n' g0 g1 hb=>?_⟩
     by_cases e:g=k
     ·subst e
      have:¬n'<z.2:=fun h=>z2 n' h hb
      rcases Int.lt_trichotomy nw n' with h | h | h
      ·exact .inl h
      ·exact .inr ⟨h,by omega⟩
      ·omega
     ·exact a3 g n' g0 (by omega) hb
theorem aFj{fs:List Fl}{ss:List St}{p:List Be}(hall:Ju fs ss)(hp:aAy p):az1 fs ss p=none↔∀f:Int,0≤f→f<fs.length→∀n,¬Bad fs ss p f n:=by
 obtain⟨i1,i2⟩:=aEM hall hp fs.length (Nat.le_refl _)
 constructor
 ·intro h f h0 h1 n;exact i1 h f h0 h1 n
 ·intro h
  cases hi:az1 fs ss p with
  | none=>rfl
  | some w=>
   obtain⟨⟨c,n⟩,f⟩:=w
   obtain⟨a0,a1,a2,_⟩:=i2 c n f hi
   exact absurd a2 (h f a0 a1 n)
/-! What a search finds -/
structure Valid(fs:List Fl)(ss:List St)(may:May)(p:List Be):Prop where
 len:p.length=4
 at_:∀i,i<ss.length→qw p i∈jc fs ss may i
 out:∀i,ss.length≤i→qw p i=TL
theorem aym{p:List Be}{k i:Nat}{b:Be}(hk:k<p.length):qw (p.set k b) i=if i=k then b else qw p i:=by
 simp only[qw,List.getD]
 by_cases e:i=k
 ·subst e;rw[if_pos rfl,List.getElem?_set_self hk];rfl
 ·rw[if_neg e,List.getElem?_set_ne (Ne.symm e)]
theorem aJm{p q:List Be}(h1:p.length=4)(h2:q.length=4)(h:∀i,i<4→qw p i=qw q i):p=q:=by
 apply List.ext_getElem?
 intro i
 rcases Nat.lt_or_ge i 4 with hi | hi
 ·have:=h i hi
  simp only[qw,List.getD,List.getElem?_eq_getElem (show i<p.length by omega),List.getElem?_eq_getElem (show i<q.length by omega),Option.getD_some]at this⊢
  rw[this]
 ·rw[List.getElem?_eq_none (by omega),List.getElem?_eq_none (by omega)]
theorem aKc{fs:List Fl}{ss:List St}{p q:List Be}{f d:Int}(hall:Ju fs ss)(hf:0≤f)(h:∀i,i<4→qw q i=qw p i∨(qw q i).fl<0):aHX fs ss q f d≤aHX fs ss p f d:=by
 refine aD2 fun i hi=>?_
 have hc:=(aJl hall i).1
 rcases h i hi with h | h
 ·simp only[hiG,h];exact Int.le_refl _
 ·simp only[hiG]
  rw[if_neg (by omega)]
  split <;>omega
theorem aJn{fs:List Fl}{ss:List St}{p q:List Be}{b:Be}(hall:Ju fs ss)(hp:aAy p)(hq:aAy q)(hb:b.fl<fs.length)(hr:az1 fs ss p=none)(h:∀i,i<4→qw q i=qw p i∨(qw q i).fl<0):prune fs ss q b=false:=by
 unfold prune
 split
 ·rename_i h0
  cases ho:over (Wy fs b.fl).pl (aw4 fs ss q b.fl)with
  | false=>rfl
  | true=>
   obtain⟨i,s,hs,hlt⟩:=aGF.1 ho
   have hi:i<22:=by
    rcases Nat.lt_or_ge i 22 with h' | h'
    ·exact h'
    ·rw[List.getElem?_eq_none (by rw[azp];exact h')]at hs;cases hs
   rw[aAd hall hq h0 hb hi]at hs
   cases hs
   have hm:=aKc (d:=i) hall h0 h
   have:=(aFj hall hp).1 hr b.fl h0 hb i
   exact absurd (.inl ⟨by omega,by omega,by simp only at hlt;omega⟩) this
 ·rfl
theorem aAe{fs:List Fl}{ss:List St}{may:May}(hall:Ju fs ss):∀(m k:Nat) (q p:List Be),k+m=ss.length→axb fs ss q→(∀i,k≤i→qw q i=TL)→
  (p∈rights fs ss may m k q↔p.length=4∧(∀i,i<k→qw p i=qw q i)∧(∀i,k≤i→i<ss.length→qw p i∈jc fs ss may i)∧(∀i,ss.length≤i→qw p i=TL)∧az1 fs ss p=none)
 | 0,k,q,p,hk,hq,hn=>by
  rw[rights]
  constructor
  ·intro h
   split at h
   ·rename_i hi
    have:p=q:=by simpa using h
    subst this
    exact⟨hq.ok.len,fun _ _=>rfl,fun i h1 h2=>by omega,fun i h1=>hn i (by omega),by simpa using hi⟩
   ·cases h
  ·rintro⟨h1,h2,h3,h4,h5⟩
   have:p=q:=aJm h1 hq.ok.len fun i hi=>by
    rcases Nat.lt_or_ge i k with h | h
    ·exact h2 i h
    ·rw[h4 i (by omega),hn i h]
   subst this
   simp[h5]
 | m+1,k,q,p,hk,hq,hn=>by
  have hk4:k<q.length:=by have:=hall.ns;have:=hq.ok.len;omega
  have hbn:∀b,qw (q.set k b) k=b:=fun b=>by rw[aym hk4,if_pos rfl]
  have hsn:∀b i,k+1≤i→qw (q.set k b) i=TL:=fun b i hi=>by rw[aym hk4,if_neg (by omega)];exact hn i (by omega)
  have hso:∀b i,i<k→qw (q.set k b) i=qw q i:=fun b i hi=>by rw[aym hk4,if_neg (by omega)]
  rw[rights,List.mem_flatMap]
  constructor
  ·rintro⟨b,hb,hp⟩
   split at hp
   ·cases hp
   ·obtain⟨h1,h2,h3,h4,h5⟩:=(aAe hall m (k+1) (q.set k b) p (by omega) (ax4 hq (by omega) (awZ hall (by omega) hb)) (hsn b)).1 hp
    refine⟨h1,fun i hi=>?_,fun i hi hi2=>?_,h4,h5⟩
    ·rw[h2 i (by omega),hso b i hi]
    ·by_cases e:i=k
     ·subst e;rw[h2 i (by omega),hbn];exact hb
     ·exact h3 i (by omega) hi2
  ·rintro⟨h1,h2,h3,h4,h5⟩
   have hb:=h3 k (Nat.le_refl _) (by omega)
   have hset:=ax4 (k:=k) hq (by omega) (awZ hall (by omega) hb)
   have hpre:∀i,i<4→qw (q.set k (qw p k)) i=qw p i∨(qw (q.set k (qw p k)) i).fl<0:=fun i hi=>by
    rcases Nat.lt_trichotomy i k with h | h | h
    ·left;rw[hso _ i h,h2 i h]
    ·left;subst h;rw[hbn]
    ·right;rw[hsn _ i (by omega)];simp[TL]
   have aMZ:aAy p:=⟨h1,fun b hb=>by
    obtain⟨i,hi,rfl⟩:=List.mem_iff_getElem.1 hb
    have e:p[i]=qw p i:=by simp[qw,List.getD,List.getElem?_eq_getElem hi]
    rw[e]
    rcases Nat.lt_or_ge i k with h | h
    ·rw[h2 i h];exact(aw8 hq.ok (by omega)).2
    ·rcases Nat.lt_or_ge i ss.length with h' | h'
     ·have:=awZ hall h' (h3 i h h');omega
     ·rw[h4 i h'];simp[TL]⟩
   refine⟨qw p k,hb,?_⟩
   rw[if_neg (by rw[aJn hall aMZ hset.ok (awZ hall (by omega) hb).2.2.1 h5 hpre];simp)]
   refine(aAe hall m (k+1) _ p (by omega) hset (hsn _)).2 ⟨h1,fun i hi=>?_,fun i hi hi2=>h3 i (by omega) hi2,h4,h5⟩
   by_cases e:i=k
   ·subst e;rw[hbn]
   ·rw[hso _ i (by omega),h2 i (by omega)]
theorem aAR(i:Nat):qw (aw5 []) i=TL:=aHL i
theorem aF6{fs:List Fl}{ss:List St}{may:May}(hall:Ju fs ss){p:List Be}:p∈Pv fs ss may []↔Valid fs ss may p∧az1 fs ss p=none:=by
 rw[Pv,List.length_nil,aAe hall _ _ _ _ (by omega) (azf hall.nf.1) (fun i _=>aAR i)]
 constructor
 ·rintro⟨h1,_,h3,h4,h5⟩;exact⟨⟨h1,fun i hi=>h3 i (Nat.zero_le _) hi,h4⟩,h5⟩
 ·rintro⟨⟨h1,h2,h3⟩,h4⟩;exact⟨h1,fun i hi=>by omega,fun i _ hi=>h2 i hi,h3,h4⟩
theorem aGf{fs:List Fl}{ss:List St}{may:May}(hall:Ju fs ss){p:List Be}:p∈azZ fs ss may↔Valid fs ss may p∧az1 fs ss p=none:=by
 unfold azZ
 split
 ·exact aF6 hall
 ·rename_i hs
  have h0:0<(aw5 []).length:=by decide
  rw[List.mem_flatMap]
  have hb1:∀b,b∈jc fs ss may 0→(p∈Pv fs ss may [b]↔p.length=4∧(∀i,i<1→qw p i=qw ((aw5 []).set 0 b) i)∧(∀i,1≤i→i<ss.length→qw p i∈jc fs ss may i)∧(∀i,ss.length≤i→qw p i=TL)∧az1 fs ss p=none):=fun b hb=>by
   rw[Pv,List.length_singleton,aDq]
   exact aAe hall _ _ _ _ (by omega) (ax4 (azf hall.nf.1) (by omega) (awZ hall (by omega) hb)) (fun i hi=>by rw[aym h0,if_neg (by omega)];exact aAR i)
  constructor
  ·rintro⟨b,hb,hp⟩
   obtain⟨h1,h2,h3,h4,h5⟩:=(hb1 b hb).1 hp
   refine⟨⟨h1,fun i hi=>?_,h4⟩,h5⟩
   by_cases e:i=0
   ·subst e;rw[h2 0 (by omega),aym h0,if_pos rfl];exact hb
   ·exact h3 i (by omega) hi
  ·rintro⟨⟨h1,h2,h3⟩,h4⟩
   refine⟨qw p 0,h2 0 (by omega),(hb1 _ (h2 0 (by omega))).2 ⟨h1,fun i hi=>?_,fun i _ hi=>h2 i hi,h3,h4⟩⟩
   have:i=0:=by omega
   subst this
   rw[aym h0,if_pos rfl]
theorem aAS{f:Int}:∀{m:Nat} {d:Int} {b:Be},b∈atI f d m↔b.fl=f∧d≤b.day∧b.day<d+m
 | 0,d,b=>by
  constructor
  ·intro h;simp[atI]at h
  ·intro h;omega
 | m+1,d,b=>by
  rw[atI,List.mem_cons,aAS]
  constructor
  ·rintro(rfl | h)
   ·simp;omega
   ·omega
  ·rintro⟨h1,h2,h3⟩
   by_cases e:b.day=d
   ·left;obtain⟨x,y⟩:=b;simp at h1 e;rw[h1,e]
   ·right;omega
theorem aAf{s:St}:∀{m:Nat} {f:Int} {b:Be},b∈DF s f m↔f≤b.fl∧b.fl<f+m∧s.day≤b.day∧b.day<s.day+(s.wa+1).toNat
 | 0,f,b=>by simp[DF];omega
 | m+1,f,b=>by
  rw[DF,List.mem_append,aAS,aAf]
  omega
theorem aEe{fs:List Fl}{ss:List St}{may:May}{k:Nat}{b:Be}:b∈jc fs ss may k↔(may k).2=true∧b=TL∨(may k).1=true∧0≤b.fl∧b.fl<fs.length∧(ax6 ss k).day≤b.day∧b.day<(ax6 ss k).day+((ax6 ss k).wa+1).toNat:=by
 rw[jc,List.mem_append]
 have e1:b∈(if(may k).2 then[TL]else[])↔(may k).2=true∧b=TL:=by
  split <;>simp[*]
 have e2:b∈(if(may k).1 then DF (ax6 ss k) 0 fs.length else[])↔(may k).1=true∧b∈DF (ax6 ss k) 0 fs.length:=by
  split <;>simp[*]
 rw[e1,e2,aAf]
 simp
end Go.aS

/- The best plans; when all strikes can be set; the first that can't. Conditions: none. -/
namespace Go.aS
/-! Each plan once -/
theorem aB2{f:Int}:∀(m:Nat) (d:Int),(atI f d m).Nodup
 | 0,_=>.nil
 | m+1,d=>by
  rw[atI,List.nodup_cons]
  refine⟨fun h=>?_,aB2 m (d+1)⟩
  have:=(azY h).2.1
  simp only at this;omega
theorem aAT{s:St}:∀(m:Nat) (f:Int),(DF s f m).Nodup
 | 0,_=>.nil
 | m+1,f=>by
  rw[DF,List.nodup_append]
  refine⟨aB2 _ _,aAT m (f+1),fun a ha b hb e=>?_⟩
  subst e
  have h1:=(azY ha).1
  have h2:=(ay1 hb).1
  omega
theorem aCC{fs:List Fl}{ss:List St}{may:May}{k:Nat}:(jc fs ss may k).Nodup:=by
 rw[jc,List.nodup_append]
 refine⟨by split <;>simp,?_,fun a ha b hb e=>?_⟩
 ·split
  ·exact aAT _ _
  ·exact .nil
 subst e
 split at ha
 ·have:a=TL:=by simpa using ha
  subst this
  split at hb
  ·have:=(ay1 hb).1;simp[TL]at this
  ·cases hb
 ·cases ha
theorem aB7{fs:List Fl}{ss:List St}{may:May}(hall:Ju fs ss){m k:Nat}{q p:List Be}{b:Be}(hk:k+1+m=ss.length)(hq:axb fs ss q)(hn:∀i,k≤i→qw q i=TL)(hb:b∈jc fs ss may k)(h:p∈rights fs ss may m (k+1) (q.set k b)):qw p k=b:=by
 have hk4:k<q.length:=by have:=hall.ns;have:=hq.ok.len;omega
 have:=((aAe hall m (k+1) (q.set k b) p (by omega) (ax4 hq (by omega) (awZ hall (by omega) hb)) (fun i hi=>by rw[aym hk4,if_neg (by omega)];exact hn i (by omega))).1 h).2.1 k (by omega)
 rw[this,aym hk4,if_pos rfl]
theorem aA6{fs:List Fl}{ss:List St}{may:May}(hall:Ju fs ss):∀(m k:Nat) (q:List Be),k+m=ss.length→axb fs ss q→(∀i,k≤i→qw q i=TL)→(rights fs ss may m k q).Nodup
 | 0,k,q,_,_,_=>by
  rw[rights];split <;>simp
 | m+1,k,q,hk,hq,hn=>by
  have hk4:k<q.length:=by have:=hall.ns;have:=hq.ok.len;omega
  rw[rights,List.Nodup,List.pairwise_flatMap]
  refine⟨fun b hb=>?_,?_⟩
  ·split
   ·exact .nil
   ·exact aA6 hall m (k+1) _ (by omega) (ax4 hq (by omega) (awZ hall (by omega) hb)) (fun i hi=>by rw[aym hk4,if_neg (by omega)];exact hn i (by omega))
  ·refine(aCC (fs:=fs) (ss:=ss) (may:=may) (k:=k)).imp_of_mem fun{a b} ha hb hab x hx y hy e=>?_
   subst e
   split at hx
   ·cases hx
   ·split at hy
    ·cases hy
    ·exact hab ((aB7 hall (by omega) hq hn ha hx).symm.trans (aB7 hall (by omega) hq hn hb hy))
theorem aHs{fs:List Fl}{ss:List St}{may:May}(hall:Ju fs ss):(azZ fs ss may).Nodup:=by
 unfold azZ
 split
 ·exact aA6 hall _ _ _ (by simp) (azf hall.nf.1) (fun i _=>aAR i)
 ·rename_i hs
  have aL6:∀b,b∈jc fs ss may 0→∀i,1≤i→qw ((aw5 []).set 0 b) i=TL:=fun b _ i hi=>by rw[aym (by decide),if_neg (by omega)];exact aAR i
  rw[List.Nodup,List.pairwise_flatMap]
  refine⟨fun b hb=>?_,?_⟩
  ·rw[Pv,List.length_singleton,aDq]
   exact aA6 hall _ _ _ (by omega) (ax4 (azf hall.nf.1) (by omega) (awZ hall (by omega) hb)) (aL6 b hb)
  ·refine(aCC (fs:=fs) (ss:=ss) (may:=may) (k:=0)).imp_of_mem fun{a b} ha hb hab x hx y hy e=>?_
   subst e
   rw[Pv,List.length_singleton,aDq]at hx hy
   exact hab ((aB7 hall (by omega) (azf hall.nf.1) (fun i _=>aAR i) ha hx).symm.trans (aB7 hall (by omega) (azf hall.nf.1) (fun i _=>aAR i) hb hy))

/-! The best -/
theorem filter_none{α:Type}{l:List α}{f:α→Bool}(h:∀q∈l,f q=false):l.filter f=[]:=List.filter_eq_nil_iff.2 fun q hq=>by rw[h q hq];simp
structure BInv(ss:List St)(l:List (List Be))(s:(Int×List (List Be))×List (List Be)):Prop where
 met:s.2=l
 top:l≠[]→(∃q∈l,awM ss q=s.1.1)∧∀q∈l,awM ss q≤s.1.1
 out:s.1.2=l.filter fun q=>decide (awM ss q=s.1.1)
theorem BInv.step{ss:List St}{l:List (List Be)}{s:(Int×List (List Be))×List (List Be)}{p:List Be}(H:BInv ss l s)(hp:p∉l):BInv ss (l++[p]) (aAQ ss s p):=by
 obtain⟨⟨m,out⟩,met⟩:=s
 obtain⟨h1,h2,h3⟩:=H
 simp only at h1 h2 h3
 subst h1
 obtain⟨n,hn⟩:∃n,awM ss p=n:=⟨_,rfl⟩
 simp only[aAQ,if_neg hp,WA,hn]
 have hpf:∀c,[p].filter (fun q=>decide (awM ss q=c))=if n=c then[p]else[]:=fun c=>by
  rw[List.filter_cons];simp[hn]
 rcases met with _ | ⟨q0,r0⟩
 ·have h0:out=[]:=h3
  subst h0
  simp only[true_or,if_true,List.nil_append]
  refine⟨rfl,fun _=>⟨⟨p,by simp,hn⟩,fun q hq=>?_⟩,by simp only;rw[hpf,if_pos rfl]⟩
  have:q=p:=by simpa using hq
  subst this;simp only;omega
 ·obtain⟨⟨q1,hq1,hq2⟩,htop⟩:=h2 (by simp)
  have hne:(q0::r0).filter (fun q=>decide (awM ss q=m))≠[]:=fun e=>by
   have:=List.filter_eq_nil_iff.1 e q1 hq1
   simp[hq2]at this
  rw[←h3]at hne
  generalize q0::r0=l at*
  by_cases hlt:m<n
  ·have hc:out=[]∨m<n:=.inr hlt
   simp only[if_pos hc,if_true,List.nil_append]
   refine⟨rfl,fun _=>⟨⟨p,by simp,hn⟩,fun q hq=>?_⟩,?_⟩
   ·rcases List.mem_append.1 hq with hq | hq
    ·have:=htop q hq;simp only;omega
    ·have:q=p:=by simpa using hq
     subst this;simp only;omega
   ·simp only
    rw[List.filter_append,hpf,if_pos rfl,filter_none fun q hq=>?_]
    ·rfl
    ·have:=htop q hq
     exact decide_eq_false (by omega)
  ·have hc:¬(out=[]∨m<n):=not_or.2 ⟨hne,hlt⟩
   simp only[if_neg hc]
   by_cases he:n=m
   ·rw[if_pos he]
    refine⟨rfl,fun _=>⟨⟨p,by simp,hn.trans he⟩,fun q hq=>?_⟩,?_⟩
    ·rcases List.mem_append.1 hq with hq | hq
     ·exact htop q hq
     ·have:q=p:=by simpa using hq
      subst this;simp only;omega
    ·simp only
     rw[List.filter_append,hpf,if_pos he,h3]
   ·rw[if_neg he]
    refine⟨rfl,fun _=>⟨⟨q1,by simp[hq1],hq2⟩,fun q hq=>?_⟩,?_⟩
    ·rcases List.mem_append.1 hq with hq | hq
     ·exact htop q hq
     ·have:q=p:=by simpa using hq
      subst this;simp only;omega
    ·simp only
     rw[List.filter_append,hpf,if_neg he,List.append_nil,h3]
theorem BInv.run{ss:List St}:∀(r l:List (List Be)) (s:(Int×List (List Be))×List (List Be)),BInv ss l s→(l++r).Nodup→BInv ss (l++r) (r.foldl (aAQ ss) s)
 | [],l,s,h,_=>by rw[List.append_nil];exact h
 | p::r,l,s,h,hnd=>by
  rw[List.foldl_cons,show l++p::r=(l++[p])++r by simp]
  refine BInv.run r (l++[p]) _ (h.step fun hm=>?_) (by simpa using hnd)
  exact(List.nodup_append.1 hnd).2.2 p hm p (by simp) rfl
theorem aHW{fs:List Fl}{ss:List St}(hall:Ju fs ss):(∃q∈azZ fs ss azx,awM ss q=(awR fs ss).1)∧(∀q∈azZ fs ss azx,awM ss q≤(awR fs ss).1)∧(awR fs ss).2=(azZ fs ss azx).filter fun q=>decide (awM ss q=(awR fs ss).1):=by
 have h:=BInv.run (ss:=ss) (azZ fs ss azx) [] ((0,[]),[]) ⟨rfl,fun h=>absurd rfl h,rfl⟩ (aHs hall)
 rw[List.nil_append]at h
 have hne:azZ fs ss azx≠[]:=fun e=>by have:=aHO hall;rw[e]at this;cases this
 exact⟨(h.top hne).1,(h.top hne).2,h.out⟩

/-! Loaves -/
def coG(ss:List St)(p:List Be)(i:Nat):Int:=if 0≤(qw p i).fl then(ax6 ss i).co else 0
theorem aEN{fs:List Fl}{ss:List St}{p:List Be}(hall:Ju fs ss):∀k,k≤1000→azg ss p k=ay2 (coG ss p) k∧0≤ay2 (coG ss p) k∧ay2 (coG ss p) k≤6*k
 | 0,_=>⟨rfl,Int.le_refl _,Int.le_refl _⟩
 | k+1,hk=>by
  obtain⟨h1,h2,h3⟩:=aEN (p:=p) hall k (by omega)
  have hc:=aJl hall k
  simp only[azg,ay2,coG]
  split
  ·rw[h1,aCY h2 (by omega) hc.1 (by omega)]
   exact⟨rfl,by omega,by omega⟩
  ·exact⟨by omega,by omega,by omega⟩
theorem aG3{fs:List Fl}{ss:List St}{p:List Be}(hall:Ju fs ss):awM ss p=ay2 (coG ss p) ss.length:=(aEN hall _ (by have:=hall.ns;omega)).1
/-! Whether all can be set -/
theorem aG4{fs:List Fl}{ss:List St}{may:May}{p:List Be}(hall:Ju fs ss)(hv:Valid fs ss may p):axb fs ss p:=by
 have hb:∀i,-1≤(qw p i).fl∧(qw p i).fl≤1∧(qw p i).fl<fs.length∧0≤(qw p i).day∧(qw p i).day≤17:=fun i=>by
  rcases Nat.lt_or_ge i ss.length with h | h
  ·exact awZ hall h (hv.at_ i h)
  ·rw[hv.out i h];simp[TL];omega
 have hm:∀b∈p,∃i,b=qw p i:=fun b hb=>by
  obtain⟨i,hi,rfl⟩:=List.mem_iff_getElem.1 hb
  exact⟨i,by simp[qw,List.getD,List.getElem?_eq_getElem hi]⟩
 refine⟨⟨hv.len,fun b h=>?_⟩,fun b h=>?_,fun i hi=>by rw[hv.out i hi];simp[TL]⟩
 ·obtain⟨i,rfl⟩:=hm b h;have:=hb i;omega
 ·obtain⟨i,rfl⟩:=hm b h;have:=hb i;omega
theorem take_at{p:List Be}{n i:Nat}(hi:i<n):(p.take n)[i]? =p[i]? :=by
 rw[List.getElem?_take,if_pos hi]
end Go.aS

/- The first strikes of a plant alone; which strike is late. Conditions: none. -/
namespace Go.aS
end Go.aS

/- The strike that is late, and the best plan's length. Conditions: none. -/
namespace Go.aS
theorem aIW{fs:List Fl}{ss:List St}(hck:Y2 fs ss=0):aye fs ss=((aye fs ss).1,(awR fs ss).1,0)∧(aye fs ss).1.length=ss.length:=by
 have hall:=aFJ hck
 have hns:=hall.ns
 have e:aye fs ss=(((awR fs ss).2.headD []).take ss.length,(awR fs ss).1,0):=by simp only[aye];rw[if_neg (by simp[hck])]
 refine⟨by rw[e],?_⟩
 rw[e]
 obtain⟨p,r,hpr⟩:∃p r,(awR fs ss).2=p::r:=by
  cases h:(awR fs ss).2 with
  | nil=>exact absurd h (aEd hall)
  | cons p r=>exact⟨p,r,rfl⟩
 have Du:p.length=4:=aJg (aFA (hpr▸List.mem_cons_self ..))
 rw[hpr]
 simp[Du];omega
end Go.aS

/- How many are as good; what stands; what is wrong. Conditions: none; over the given program. -/
namespace Go.aS
set_option maxRecDepth 100000
set_option maxHeartbeats 4000000
def Sp.val(s:Sp):Value:=.agg #[I s.lo,I s.hi]
end Go.aS

/- What is wrong with a plan. Conditions: none; over the given program. -/
namespace Go.aS
set_option maxRecDepth 100000
set_option maxHeartbeats 4000000
end Go.aS

/- Numbers out of a hat. Conditions: none; over the given program. -/
namespace Go.aS
set_option maxRecDepth 100000
set_option maxHeartbeats 4000000
abbrev wF(lv:Value)(k:Nat)(s:Int):Obj:=.cells #[lv,I k,.int .u64 s] adi (0,0)

theorem ab8(n:Int):0≤IntKind.u64.wrap n:=by
 show 0≤n % (18446744073709551616:Int)
 omega
theorem YL(a b:Int):0≤bits .xor IntKind.u64 a b:=by
 unfold bits
 exact ab8 _
theorem aaB(main:Side)(h:Hp)(nums:List Int)(lv:Value)(b k:Nat)(s:Int)(hl:Sl h fH lv nums)(hk:k<4000000000):dV prog main zM #[.pointer (some ⟨b,0,none⟩)] h [(b,wF lv k s)] (fun v A=>∃x s',v= .int .u64 x∧0≤x∧Sb [(b,wF lv (k+1) s')] A):=by
 obtain⟨a,cap,rfl⟩:=hl.dA
 refine dV.aG Hz rfl (by show 1≤75;decide) [(0,.pointer (some ⟨b,0,none⟩))] ⟨rfl,trivial⟩ ?_
 refine W.seq<|W.region rfl<|agb rfl rfl rfl<|pq<|W.seq<|W.region rfl<|qm rfl rfl rfl ?_
 refine ag4 rfl ?_
 refine agY rfl ?_
 refine agX rfl ?_
 refine agW (FC rfl rfl) rfl ?_
 refine ag1 rfl ?_
 refine agb rfl rfl rfl<|pq<|W.seq<|W.seq ?_
 refine W.rE (n:=10) rfl ?_
 refine dn 0 (aN rfl rfl) rfl ?_
 first | refine dn 1 (bg rfl rfl) rfl ?_ | refine dn 1 (aT rfl rfl) rfl ?_
 refine dn 2 (ay rfl rfl) rfl ?_
 refine dn 3 (iQ rfl rfl) rfl ?_
 refine dn 4 (aN rfl rfl) rfl ?_
 first | refine dn 5 (bg rfl rfl) rfl ?_ | refine dn 5 (aT rfl rfl) rfl ?_
 refine dn 6 (ay rfl rfl) rfl ?_
 refine dn 7 (iQ rfl rfl) rfl ?_
 refine dn 8 (dM rfl rfl) rfl ?_
 refine dn 9 (fO rfl rfl rfl) rfl ?_
 refine az ?_
 refine aA ?_
 refine W.bC rfl (fun c20=>?_) (fun c20=>?_)
 ·obtain⟨p,hp,-⟩:=has (show k<nums.length by omega)
  obtain⟨b1,off,c,E,fz,rfl,hb,hx,hy,hz⟩:=hl.at hp
  have hz0:=hz 0 (by decide)
  have hpa:c[off+k*1]? =some (I p):=by simpa[fH]using hz0
  refine W.rE (n:=15) rfl ?_
  refine dn 0 (aN rfl rfl) rfl ?_
  refine dn 1 (aN rfl rfl) rfl ?_
  first | refine dn 2 (bg rfl rfl) rfl ?_ | refine dn 2 (aT rfl rfl) rfl ?_
  refine dn 3 (ay rfl rfl) rfl ?_
  refine dn 4 (iQ rfl rfl) rfl ?_
  refine dn 5 (aN rfl rfl) rfl ?_
  first | refine dn 6 (bg rfl rfl) rfl ?_ | refine dn 6 (aT rfl rfl) rfl ?_
  refine dn 7 (ay rfl rfl) rfl ?_
  refine dn 8 (iQ rfl rfl) rfl ?_
  first | refine dn 9 (G_ rfl rfl rfl) rfl ?_ | refine dn 9 (o_ rfl rfl rfl) rfl ?_
  refine dn 10 (iQ rfl rfl) rfl ?_
  refine dn 11 (FC rfl rfl) rfl ?_
  first | refine dn 12 (aaC rfl rfl rfl) rfl ?_ | refine dn 12 (Fz rfl rfl rfl) rfl ?_
  refine dn 13 (Gx rfl rfl rfl) rfl ?_
  refine dn 14 (jS rfl rfl) rfl ?_
  refine az ?_
  refine aA<|W.seq<|W.region rfl<|qm rfl rfl rfl ?_
  refine ag4 rfl ?_
  refine agY rfl ?_
  refine agX rfl ?_
  refine ag1 rfl ?_
  refine ag4 rfl ?_
  refine agY rfl ?_
  refine Ops.yG ?_
  refine pq<|W.seq<|W.region rfl<|qm rfl rfl rfl<|qm rfl rfl rfl ?_
  refine ag4 rfl ?_
  refine agY rfl ?_
  refine agX rfl ?_
  refine qm rfl rfl rfl ?_
  refine agW (Gx rfl rfl rfl) rfl ?_
  first | refine agW (aaC rfl rfl rfl) rfl ?_ | refine agW (Fz rfl rfl rfl) rfl ?_
  refine ag4 rfl ?_
  refine agY rfl ?_
  refine Ops.yG ?_
  refine pq<|W.seq ?_
  refine W.rE (n:=14) rfl ?_
  refine dn 0 (aN rfl rfl) rfl ?_
  refine dn 1 (aN rfl rfl) rfl ?_
  first | refine dn 2 (bg rfl rfl) rfl ?_ | refine dn 2 (aT rfl rfl) rfl ?_
  refine dn 3 (ay rfl rfl) rfl ?_
  refine dn 4 (iQ rfl rfl) rfl ?_
  refine dn 5 (aN rfl rfl) rfl ?_
  first | refine dn 6 (bg rfl rfl) rfl ?_ | refine dn 6 (aT rfl rfl) rfl ?_
  refine dn 7 (ay rfl rfl) rfl ?_
  refine dn 8 (iQ rfl rfl) rfl ?_
  refine dn 9 (Gw rfl rfl rfl (by omega)) rfl ?_
  refine dn 10 (Gx rfl rfl rfl) rfl ?_
  first | refine dn 11 (bg rfl rfl) rfl ?_ | refine dn 11 (aT rfl rfl) rfl ?_
  refine dn 12 (ay rfl rfl) rfl ?_
  refine ae (i:=13) rfl an rfl rfl (eS rfl rfl rfl ?_)
  refine⟨.inl (by kernel_rfl),?_⟩
  refine az ?_
  refine aA<|W.seq<|W.region rfl<|qm rfl rfl rfl ?_
  refine ag4 rfl ?_
  refine agY rfl ?_
  refine agX rfl ?_
  first | refine agW (aaC rfl rfl rfl) rfl ?_ | refine agW (Fz rfl rfl rfl) rfl ?_
  refine agb rfl rfl rfl<|pq<|W.seq<|W.region rfl<|qm rfl rfl rfl<|qm rfl rfl rfl ?_
  refine agW (Gw rfl rfl rfl (by omega)) rfl ?_
  refine agW (Gx rfl rfl rfl) rfl ?_
  refine agW (Gw rfl rfl rfl (by omega)) rfl ?_
  refine agb rfl rfl rfl<|pq<|W.ret ?_
  refine mg ⟨_,_,rfl,?_,.refl⟩
  exact Int.fdiv_nonneg (YL _ _) (by decide)
 ·refine W.skip<|aA<|W.seq<|W.region rfl<|qm rfl rfl rfl ?_
  refine ag4 rfl ?_
  refine agY rfl ?_
  refine agX rfl ?_
  refine ag1 rfl ?_
  refine ag4 rfl ?_
  refine agY rfl ?_
  refine Ops.yG ?_
  refine pq<|W.seq<|W.region rfl<|qm rfl rfl rfl<|qm rfl rfl rfl ?_
  refine ag4 rfl ?_
  refine agY rfl ?_
  refine agX rfl ?_
  refine qm rfl rfl rfl ?_
  refine agW (Gx rfl rfl rfl) rfl ?_
  first | refine agW (aaC rfl rfl rfl) rfl ?_ | refine agW (Fz rfl rfl rfl) rfl ?_
  refine ag4 rfl ?_
  refine agY rfl ?_
  refine Ops.yG ?_
  refine pq<|W.seq ?_
  refine W.rE (n:=14) rfl ?_
  refine dn 0 (aN rfl rfl) rfl ?_
  refine dn 1 (aN rfl rfl) rfl ?_
  first | refine dn 2 (bg rfl rfl) rfl ?_ | refine dn 2 (aT rfl rfl) rfl ?_
  refine dn 3 (ay rfl rfl) rfl ?_
  refine dn 4 (iQ rfl rfl) rfl ?_
  refine dn 5 (aN rfl rfl) rfl ?_
  first | refine dn 6 (bg rfl rfl) rfl ?_ | refine dn 6 (aT rfl rfl) rfl ?_
  refine dn 7 (ay rfl rfl) rfl ?_
  refine dn 8 (iQ rfl rfl) rfl ?_
  refine dn 9 (Gw rfl rfl rfl (by omega)) rfl ?_
  refine dn 10 (Gx rfl rfl rfl) rfl ?_
  first | refine dn 11 (bg rfl rfl) rfl ?_ | refine dn 11 (aT rfl rfl) rfl ?_
  refine dn 12 (ay rfl rfl) rfl ?_
  refine ae (i:=13) rfl an rfl rfl (eS rfl rfl rfl ?_)
  refine⟨.inl (by kernel_rfl),?_⟩
  refine az ?_
  refine aA<|W.seq<|W.region rfl<|qm rfl rfl rfl ?_
  refine ag4 rfl ?_
  refine agY rfl ?_
  refine agX rfl ?_
  first | refine agW (aaC rfl rfl rfl) rfl ?_ | refine agW (Fz rfl rfl rfl) rfl ?_
  refine agb rfl rfl rfl<|pq<|W.seq<|W.region rfl<|qm rfl rfl rfl<|qm rfl rfl rfl ?_
  refine agW (Gw rfl rfl rfl (by omega)) rfl ?_
  refine agW (Gx rfl rfl rfl) rfl ?_
  refine agW (Gw rfl rfl rfl (by omega)) rfl ?_
  refine agb rfl rfl rfl<|pq<|W.ret ?_
  refine mg ⟨_,_,rfl,?_,.refl⟩
  exact Int.fdiv_nonneg (YL _ _) (by decide)
end Go.aS

/- Floors, strikes and plants out of a hat. Conditions: none; over the given program. -/
namespace Go.aS
set_option maxRecDepth 100000
set_option maxHeartbeats 4000000
theorem ab9{x n:Int}(hx:0≤x)(h1:1≤n)(h2:n≤1000000):∃r,IntKind.i64.wrap (x.tmod (IntKind.u64.wrap (IntKind.u64.wrap n+1)))=r∧0≤r∧r≤n:=by
 have e1:IntKind.u64.wrap n=n:=by show n % (18446744073709551616:Int)=n;omega
 have e2:IntKind.u64.wrap (n+1)=n+1:=by show(n+1) % (18446744073709551616:Int)=n+1;omega
 have e3:x.tmod (n+1)=x % (n+1):=Int.tmod_eq_emod_of_nonneg hx
 have h3:=Int.emod_nonneg x (show n+1≠0 by omega)
 have h4:=Int.emod_lt_of_pos x (show 0<n+1 by omega)
 rw[e1,e2,e3]
 rw[nC (by omega) (by omega)]
 exact⟨_,rfl,h3,by omega⟩

theorem adY{n:Int}(h1:1≤n)(h2:n≤1000000):IntKind.u64.wrap (IntKind.u64.wrap n+1)≠0:=by
 have e1:IntKind.u64.wrap n=n:=by show n % (18446744073709551616:Int)=n;omega
 have e2:IntKind.u64.wrap (n+1)=n+1:=by show(n+1) % (18446744073709551616:Int)=n+1;omega
 rw[e1,e2];omega
theorem UC(main:Side)(h:Hp)(nums:List Int)(lv:Value)(b k:Nat)(s n:Int)(hl:Sl h fH lv nums)(hk:k<4000000000)(hn: -1000000≤n∧n≤1000000):dV prog main Ee #[.pointer (some ⟨b,0,none⟩),I n] h [(b,wF lv k s)] (fun v A=>∃r s',v=I r∧(0≤r∧(r≤n∨r=0))∧Sb [(b,wF lv (k+1) s')] A):=by
 refine dV.aG Ky rfl (by show 2≤16;decide) [(0,.pointer (some ⟨b,0,none⟩)),(1,I n)] ⟨rfl,rfl,trivial⟩ ?_
 refine W.seq<|W.region rfl<|agb rfl rfl rfl<|pq<|W.seq<|W.region rfl<|qm rfl rfl rfl ?_
 refine cg (A:=[(b,_)]) .head (fun h' hE hL=>aaB _ h' nums lv b k s (hl.ext hE) hk) (fun v A' hv=>?_)
 obtain⟨x,s',rfl,hx,hsb⟩:=hv
 refine Ops.sb (hsb.app .refl) ?_
 refine agb rfl rfl rfl<|pq<|W.seq<|W.seq<|W.region rfl<|qm rfl rfl rfl ?_
 refine agW (fO rfl rfl rfl) rfl ?_
 refine pq ?_
 refine W.bC rfl (fun c9=>?_) (fun c9=>?_)
 ·refine W.seq<|W.region rfl<|agb rfl rfl rfl<|pq<|W.ret<|aY ?_
  exact mg (vs:=[_]) ⟨0,s',rfl,⟨Int.le_refl _,.inr rfl⟩,.refl⟩
 ·refine W.skip<|aA<|W.seq<|W.region rfl<|qm rfl rfl rfl<|qm rfl rfl rfl ?_
  refine agW (FC rfl rfl) rfl ?_
  refine ag1 rfl ?_
  refine agW (Wu rfl rfl rfl (adY (by omega) hn.2)) rfl ?_
  refine agW (FC rfl rfl) rfl ?_
  refine agb rfl rfl rfl<|pq<|W.ret ?_
  obtain⟨r,hr,h0,h1⟩:=ab9 (n:=n) hx (by omega) hn.2
  exact mg (vs:=[_]) ⟨r,s',congrArg (Value.int .i64) hr,⟨h0,.inl h1⟩,.refl⟩

theorem UD(main:Side)(h:Hp)(nums:List Int)(lv:Value)(b k:Nat)(s lo hi:Int)(hl:Sl h fH lv nums)(hk:k<4000000000)(hn: -100000≤lo∧lo≤100000∧-100000≤hi∧hi≤100000):dV prog main zL #[.pointer (some ⟨b,0,none⟩),I lo,I hi] h [(b,wF lv k s)] (fun v A=>∃r s',v=I r∧(lo≤r∧(r≤hi∨r=lo))∧Sb [(b,wF lv (k+1) s')] A):=by
 refine dV.aG Hy rfl (by show 3≤14;decide) [(0,.pointer (some ⟨b,0,none⟩)),(1,I lo),(2,I hi)] ⟨rfl,rfl,rfl,trivial⟩ ?_
 refine W.seq<|W.region rfl<|agb rfl rfl rfl<|pq<|W.seq<|W.region rfl<|qm rfl rfl rfl<|qm rfl rfl rfl<|qm rfl rfl rfl ?_
 refine qm rfl rfl rfl ?_
 refine ag5 rfl ?_
 refine cg (A:=[(b,_)]) .head (fun h' hE hL=>UC _ h' nums lv b k s (hi-lo) (hl.ext hE) hk (by omega)) (fun v A' hv=>?_)
 obtain⟨r,s',rfl,hr,hsb⟩:=hv
 refine Ops.sb (hsb.app .refl) ?_
 refine ag1 rfl ?_
 refine agb rfl rfl rfl<|pq<|W.ret ?_
 exact mg (vs:=[_]) ⟨lo+r,s',rfl,⟨by omega,by omega⟩,.refl⟩

theorem YM(main:Side)(h:Hp)(nums:List Int)(lv:Value)(b k:Nat)(s:Int)(l:List Int)(vl:Value)(hl:Sl h fH lv nums)(hs:Sl h fH vl l)(hk:k<4000000000)(h1:1≤l.length)(h2:l.length≤1000):dV prog main Ce #[.pointer (some ⟨b,0,none⟩),vl] h [(b,wF lv k s)] (fun v A=>∃r s',v=I r∧r∈l∧Sb [(b,wF lv (k+1) s')] A):=by
 obtain⟨a,cap,rfl⟩:=hs.dA
 refine dV.aG JD rfl (by show 2≤13;decide) [(0,.pointer (some ⟨b,0,none⟩)),(1,.slice a l.length cap)] ⟨rfl,rfl,trivial⟩ ?_
 refine W.seq<|W.region rfl<|agb rfl rfl rfl<|pq<|W.seq<|W.region rfl<|qm rfl rfl rfl<|qm rfl rfl rfl<|qm rfl rfl rfl ?_
 refine agW (dM rfl rfl) rfl ?_
 refine ag5 rfl ?_
 refine cg (A:=[(b,_)]) .head (fun h' hE hL=>UC _ h' nums lv b k s ((l.length:Int)-1) (hl.ext hE) hk (by omega)) (fun v A' hv=>?_)
 obtain⟨r,s',rfl,hr,hsb⟩:=hv
 refine Ops.sb (hsb.app .refl) ?_
 obtain⟨rn,rfl⟩:∃rn:Nat,r=rn:=⟨r.toNat,by omega⟩
 obtain⟨p,hp,-⟩:=has (show rn<l.length by omega)
 obtain⟨b1,off,c,E,fz,rfl,hb,hx,hy,hz⟩:=hs.at hp
 have hz0:=hz 0 (by decide)
 have hpa:c[off+rn*1]? =some (I p):=by simpa[fH]using hz0
 refine ag3 rfl ?_
 refine agX rfl ?_
 refine agb rfl rfl rfl<|pq<|W.ret ?_
 exact mg (vs:=[_]) ⟨p,s',rfl,List.mem_of_getElem? hp,.refl⟩

theorem VQ(main:Side)(h:Hp)(nums:List Int)(lv:Value)(hl:Sl h fH lv nums):dV prog main Ec #[lv] h [] (fun v A=>∃b s,v= .pointer (some ⟨b,0,none⟩)∧A=[(b,wF lv 0 s)]):=by
 obtain⟨a,cap,rfl⟩:=hl.dA
 refine dV.aG Kv rfl (by show 1≤6;decide) [(0,.slice a nums.length cap)] ⟨rfl,trivial⟩ ?_
 refine W.seq<|W.region rfl<|agb rfl rfl rfl<|pq<|W.seq<|W.region rfl<|qm rfl rfl rfl ?_
 refine agW (eH rfl rfl rfl) rfl ?_
 refine Ops.box (fun mZ=>?_)
 refine agb rfl rfl rfl<|pq<|W.ret ?_
 exact mg (vs:=[_]) ⟨_,_,rfl,rfl⟩
end Go.aS

/- Boils of one pan, in numbers. Conditions: none; no program in sight. -/
namespace Go.aS
set_option linter.unusedVariables false
theorem VI{α β:Type}{f:α→β}{xs:List α}(h:xs.Nodup)(hf:∀a∈xs,∀b∈xs,f a=f b→a=b):(xs.map f).Nodup:=by
 induction xs with
 | nil=>simp
 | cons a xs ih=>
  rw[List.nodup_cons]at h
  rw[List.map_cons,List.nodup_cons]
  refine⟨fun hm=>?_,ih h.2 fun x hx y hy=>hf x (List.mem_cons_of_mem _ hx) y (List.mem_cons_of_mem _ hy)⟩
  obtain⟨b,hb,e⟩:=List.mem_map.1 hm
  have:=hf b (List.mem_cons_of_mem _ hb) a (List.mem_cons_self ..) e
  exact h.1 (this▸hb)
structure Spn where
 (lo hi:Int)
 deriving DecidableEq
def Spn.row(s:Spn):List Value:=[I s.lo,I s.hi]
abbrev Spn.val(s:Spn):Value:=.agg #[I s.lo,I s.hi]
instance:Rw Spn.row 2:=⟨fun _=>rfl,fun _=>rfl⟩
def upz(s:Spn):List Int:=(List.range (s.hi-s.lo+1).toNat).map fun(k:Nat)=>s.lo+(k:Int)
theorem aHw{s:Spn}{n:Int}:n∈upz s↔s.lo≤n∧n≤s.hi:=by
 simp only[upz,List.mem_map,List.mem_range]
 constructor
 ·rintro⟨k,h,rfl⟩;omega
 ·intro h;exact⟨(n-s.lo).toNat,by omega,by omega⟩
theorem aIq{s:Spn}:(upz s).Nodup:=VI List.nodup_range fun a _ b _ e=>by omega
def allH:List Spn→List (List Int)
 | []=>[[]]
 | s::r=>(upz s).flatMap fun n=>(allH r).map (n:: ·)
theorem az0:∀{hs:List Spn} {x:List Int},x∈allH hs→x.length=hs.length
 | [],x,h=>by
          have:x=[]:=by simpa[allH]using h
          subst this;rfl
 | s::r,x,h=>by
  simp only[allH,List.mem_flatMap,List.mem_map]at h
  obtain⟨n,hn,y,hy,rfl⟩:=h
  simp[az0 hy]
theorem aEO:∀{hs:List Spn},(allH hs).Nodup
 | []=>by simp[allH]
 | s::r=>by
  rw[allH,List.nodup_iff_pairwise_ne,List.pairwise_flatMap]
  refine⟨fun n hn=>?_,?_⟩
  ·rw[List.pairwise_map]
   exact(List.nodup_iff_pairwise_ne.1 (aEO (hs:=r))).imp fun h e=>h (by simpa using e)
  ·refine(List.nodup_iff_pairwise_ne.1 (aIq (s:=s))).imp fun{a b} h x hx y hy e=>?_
   obtain⟨u,-,rfl⟩:=List.mem_map.1 hx
   obtain⟨v,-,rfl⟩:=List.mem_map.1 hy
   exact h (by simp at e;exact e.1)
def aAm(l:List Int):Int:=l.foldr (· + ·) 0
theorem aDH{a:Int}{l:List Int}:aAm (a::l)=a+aAm l:=rfl
theorem aJo{a b:List Int}:aAm (a++b)=aAm a+aAm b:=by
 induction a with
 | nil=>simp[aAm]
 | cons x a ih=>rw[List.cons_append,aDH,ih,aDH];omega
end Go.aS

/- Boils of several pans with proofs, in numbers. Conditions: none; no program in sight. -/
namespace Go.aS
set_option linter.unusedVariables false
structure Prf where
 (Jq tick th:Int)
 deriving DecidableEq
def Prf.row(p:Prf):List Value:=[I p.Jq,I p.tick,I p.th]
abbrev Prf.val(p:Prf):Value:=.agg #[I p.Jq,I p.tick,I p.th]
instance:Rw Prf.row 3:=⟨fun _=>rfl,fun _=>rfl⟩

structure Boi where
 ss:List Spn
 rs:List Int
 ms:Int×Int×Int
 hs:List Spn
 ps:List Prf
structure BOK(B:Boi):Prop where
 s1:1≤B.ss.length
 s2:B.ss.length≤3
 sp:∀s∈B.ss,0≤s.lo∧s.lo≤s.hi∧s.hi≤40
 r1:B.rs.length=B.ss.length
 rp:∀r∈B.rs,1≤r∧r≤3
 mp:1≤B.ms.1∧B.ms.1<B.ms.2.1∧B.ms.2.1<B.ms.2.2∧B.ms.2.2≤60
 h1:1≤B.hs.length
 h2:B.hs.length≤5
 hp:∀s∈B.hs,0≤s.lo∧s.lo≤s.hi∧s.hi≤4
 p2:B.ps.length≤8
 pp:∀p∈B.ps,(0≤p.Jq∧p.Jq<B.ss.length)∧(0≤p.tick∧p.tick≤B.hs.length)∧(0≤p.th∧p.th≤3)

def azu(ms:Int×Int×Int)(t:Nat):Spn:=
 ⟨[-1048576,ms.1,ms.2.1,ms.2.2,1048576].getD t 0,[-1048576,ms.1,ms.2.1,ms.2.2,1048576].getD (t+1) 0-1⟩
def awL(ms:Int×Int×Int)(n:Int):Nat:=if n≥ms.2.2 then 3 else if n≥ms.2.1 then 2 else if n≥ms.1 then 1 else 0
def aGK(a b:Spn):Spn:=⟨max a.lo b.lo,min a.hi b.hi⟩
def aGj(s:Spn):Int:=max 0 (s.hi-s.lo+1)
def aw_(rs:List Int)(k:List Int)(Jq t:Nat):Int:=rs.getD Jq 0*aAm (k.take t)
def aG_(l:List Spn):List Spn:=l++List.replicate (3-l.length) ⟨0,0⟩
theorem aGL{l:List Spn}(h:l.length≤3):(aG_ l).length=3:=by simp[aG_];omega
def aFa(ms:Int×Int×Int)(rs k:List Int)(l:List Spn)(p:Prf):List Spn:=
 l.set p.Jq.toNat (aGK (l.getD p.Jq.toNat ⟨0,0⟩) ⟨(azu ms p.th.toNat).lo-aw_ rs k p.Jq.toNat p.tick.toNat,(azu ms p.th.toNat).hi-aw_ rs k p.Jq.toNat p.tick.toNat⟩)
def axX(B:Boi)(k:List Int):List Spn:=B.ps.foldl (aFa B.ms B.rs k) (aG_ B.ss)
def aLy(l:List Spn)(n:Nat):Int:=((l.take n).map aGj).foldl (· * ·) 1
def azh(B:Boi)(k:List Int):Int:=aLy (axX B k) B.ss.length
theorem aJp{ms:Int×Int×Int}{rs k:List Int}{l:List Spn}{p:Prf}:(aFa ms rs k l p).length=l.length:=by simp[aFa]
theorem aDI{ms:Int×Int×Int}{rs k:List Int}:∀{ps:List Prf} {l:List Spn},(ps.foldl (aFa ms rs k) l).length=l.length
 | [],_=>rfl
 | p::ps,l=>by rw[List.foldl_cons,aDI,aJp]
theorem aJq{B:Boi}{k:List Int}(h:B.ss.length≤3):(axX B k).length=3:=by rw[axX,aDI,aGL h]

def SpB(s:Spn):Prop:=0≤s.lo∧s.lo≤1048576∧-1048700≤s.hi∧s.hi≤40
theorem aKd{s:Spn}(h:SpB s):0≤aGj s∧aGj s≤41:=by unfold SpB at h;unfold aGj;omega
theorem aGM{ms:Int×Int×Int}(h:1≤ms.1∧ms.1<ms.2.1∧ms.2.1<ms.2.2∧ms.2.2≤60){t:Nat}(ht:t≤3): -1048576≤(azu ms t).lo∧(azu ms t).lo≤60∧0≤(azu ms t).hi∧(azu ms t).hi≤1048575:=by
 have:t=0∨t=1∨t=2∨t=3:=by omega
 rcases this with rfl | rfl | rfl | rfl <;>simp[azu] <;>omega
theorem aFM{ms:Int×Int×Int}(h:1≤ms.1∧ms.1<ms.2.1∧ms.2.1<ms.2.2∧ms.2.2≤60){n:Int}(hn: -1048576≤n∧n<1048576):(azu ms (awL ms n)).lo≤n∧n≤(azu ms (awL ms n)).hi:=by
 unfold awL
 split
 ·simp[azu];omega
 ·split
  ·simp[azu];omega
  ·split
   ·simp[azu];omega
   ·simp[azu];omega
def InS(q:List Int)(l:List Spn):Prop:=∀(i:Nat) n s,q[i]? =some n→l[i]? =some s→s.lo≤n∧n≤s.hi
theorem InS.prv{ms:Int×Int×Int}{rs k q:List Int}{l:List Spn}{p:Prf}(H:InS q l)(hq:∀n,q[p.Jq.toNat]? =some n→(azu ms p.th.toNat).lo≤n+aw_ rs k p.Jq.toNat p.tick.toNat∧n+aw_ rs k p.Jq.toNat p.tick.toNat≤(azu ms p.th.toNat).hi):InS q (aFa ms rs k l p):=by
 intro i n s hi hs
 rw[aFa,List.getElem?_set]at hs
 split at hs
 ·rename_i he
  subst he
  split at hs
  ·rename_i hl
   obtain rfl:=Option.some.inj hs
   have h1:=hq n hi
   have h2:=H _ n (l.getD p.Jq.toNat ⟨0,0⟩) hi (by rw[List.getD_eq_getElem?_getD,List.getElem?_eq_getElem hl];rfl)
   unfold aGK
   simp only
   omega
  ·cases hs
 ·exact H i n s hi hs
theorem InS.fold{ms:Int×Int×Int}{rs k q:List Int}:∀{ps:List Prf} {l:List Spn},InS q l→(∀p∈ps,∀n,q[p.Jq.toNat]? =some n→(azu ms p.th.toNat).lo≤n+aw_ rs k p.Jq.toNat p.tick.toNat∧n+aw_ rs k p.Jq.toNat p.tick.toNat≤(azu ms p.th.toNat).hi)→InS q (ps.foldl (aFa ms rs k) l)
 | [],_,H,_=>H
 | p::ps,l,H,h=>InS.fold (ps:=ps) (H.prv (h p (List.mem_cons_self ..))) fun p' hp'=>h p' (List.mem_cons_of_mem _ hp')
theorem aCv:∀{l:List Int} {a:Int},0<a→(∀x∈l,0<x)→0<l.foldl (· * ·) a
 | [],_,h,_=>h
 | x::l,a,h,hl=>aCv (l:=l) (Int.mul_pos h (hl x (List.mem_cons_self ..))) fun y hy=>hl y (List.mem_cons_of_mem _ hy)
end Go.aS
namespace Go.aS
def SpL(l:List Spn):Prop:=∀s∈l,SpB s
theorem SpL.getD{l:List Spn}(h:SpL l)(i:Nat):SpB (l.getD i ⟨0,0⟩):=by
 rw[List.getD_eq_getElem?_getD]
 rcases e:l[i]? with _ | s
 ·exact⟨by decide,by decide,by decide,by decide⟩
 ·exact h s (List.mem_of_getElem? e)
theorem SpL.pad{B:Boi}(ok:BOK B):SpL (aG_ B.ss):=by
 intro s hs
 rcases List.mem_append.1 hs with h | h
 ·have:=ok.sp s h;unfold SpB;omega
 ·rw[List.eq_of_mem_replicate h];exact⟨by decide,by decide,by decide,by decide⟩
theorem SpL.prv{ms:Int×Int×Int}{rs k:List Int}{l:List Spn}{p:Prf}(H:SpL l)(hms:1≤ms.1∧ms.1<ms.2.1∧ms.2.1<ms.2.2∧ms.2.2≤60)(ht:p.th.toNat≤3)(hb:0≤aw_ rs k p.Jq.toNat p.tick.toNat∧aw_ rs k p.Jq.toNat p.tick.toNat≤60):SpL (aFa ms rs k l p):=by
 intro s hs
 rcases List.mem_or_eq_of_mem_set hs with h | rfl
 ·exact H s h
 ·have h1:=H.getD p.Jq.toNat
  have h2:=aGM hms ht
  unfold SpB at h1
  unfold aGK SpB
  simp only
  omega
def aCZ(B:Boi)(k:List Int)(i:Nat):List Spn:=(B.ps.take i).foldl (aFa B.ms B.rs k) (aG_ B.ss)
theorem aFD{B:Boi}{k:List Int}{i:Nat}{p:Prf}(h:B.ps[i]? =some p):aCZ B k (i+1)=aFa B.ms B.rs k (aCZ B k i) p:=by
 rw[aCZ,List.take_add_one,h,List.foldl_append];rfl
theorem aEb{B:Boi}{k:List Int}:aCZ B k B.ps.length=axX B k:=by rw[aCZ,List.take_length];rfl
theorem aJr{B:Boi}{k:List Int}{i:Nat}(h:B.ss.length≤3):(aCZ B k i).length=3:=by rw[aCZ,aDI,aGL h]
theorem aFH{B:Boi}{k:List Int}(ok:BOK B)(hb:∀(j t:Nat),t≤5→0≤aw_ B.rs k j t∧aw_ B.rs k j t≤60):∀{i:Nat},i≤B.ps.length→SpL (aCZ B k i)
 | 0,_=>SpL.pad ok
 | i+1,h=>by
  obtain⟨p,hp,-⟩:=has (show i<B.ps.length by omega)
  rw[aFD hp]
  have hpp:=ok.pp p (List.mem_of_getElem? hp)
  have:=ok.h2
  exact(aFH ok hb (by omega)).prv ok.mp (by omega) (hb _ _ (by omega))
def aDr(l:List Spn)(n:Nat):Int:=((l.take n).map aGj).foldl (· * ·) 1
theorem aDJ{l:List Spn}{n:Nat}{s:Spn}(h:l[n]? =some s):aDr l (n+1)=aDr l n*aGj s:=by
 rw[aDr,List.take_add_one,h];simp[aDr]
theorem aF7{l:List Spn}(H:SpL l):∀{n:Nat},n≤3→0≤aDr l n∧aDr l n≤41 ^ n
 | 0,_=>by simp[aDr]
 | n+1,h=>by
  have ih:=aF7 H (n:=n) (by omega)
  rcases e:l[n]? with _ | s
  ·rw[show aDr l (n+1)=aDr l n by rw[aDr,List.take_add_one,e];simp[aDr]]
   refine⟨ih.1,Int.le_trans ih.2 ?_⟩
   have h0:(0:Int)≤41 ^ n:=Int.pow_nonneg (by decide)
   rw[Int.pow_succ]
   generalize(41:Int) ^ n=z at h0
   omega
  ·rw[aDJ e]
   have h1:=aKd (H s (List.mem_of_getElem? e))
   refine⟨Int.mul_nonneg ih.1 h1.1,?_⟩
   rw[Int.pow_succ]
   exact Int.mul_le_mul ih.2 h1.2 h1.1 (by have:(0:Int)≤41 ^ n:=Int.pow_nonneg (by decide);exact this)
end Go.aS

/- Boils checked. Conditions: none; over the given program. -/
namespace Go.aS
set_option maxRecDepth 100000
set_option maxHeartbeats 4000000
theorem ayu(main:Side)(h:Hp)(n lo hi:Int):Pu prog main aA9 #[I n,I lo,I hi] h (.bool (decide (lo≤n∧n≤hi))):=by
 refine dV.aG aDw rfl (by show 3≤15;decide) [(0,I n),(1,I lo),(2,I hi)] ⟨rfl,rfl,rfl,trivial⟩ ?_
 refine W.seq<|W.region rfl<|agb rfl rfl rfl<|pq<|W.seq<|W.region rfl<|qm rfl rfl rfl<|qm rfl rfl rfl ?_
 refine agW (Lr rfl rfl rfl) rfl ?_
 refine qm rfl rfl rfl ?_
 refine Ops.ask (fun ae5=>?_) (fun ae5=>?_)
 ·refine oq (aN rfl rfl) rfl (ak rfl rfl rfl) rfl rfl ?_
  refine oq (aN rfl rfl) rfl (ak rfl rfl rfl) rfl rfl ?_
  refine oq (Lr rfl rfl rfl) rfl (ak rfl rfl rfl) rfl rfl ?_
  refine agW (dG rfl rfl rfl) rfl ?_
  refine agb rfl rfl rfl<|pq<|W.ret ?_
  refine uZ ?_
  refine congrArg Value.bool ?_
  simp only[Bool.decide_and]
  simp[*]
 ·refine Ops.no ?_
  refine Ops.no ?_
  refine Ops.no ?_
  refine agW (iH rfl rfl rfl) rfl ?_
  refine agb rfl rfl rfl<|pq<|W.ret ?_
  refine uZ ?_
  refine congrArg Value.bool ?_
  simp only[Bool.decide_and]
  simp[*]

theorem aF8(main:Side)(h:Hp)(s:Spn)(m:Int)(hs:0≤s.lo∧s.lo≤s.hi∧s.hi≤m):Pu prog main az_ #[s.val,I m] h (I 0):=by
 refine dV.aG aCk rfl (by show 2≤22;decide) [(0,s.val),(1,I m)] ⟨rfl,rfl,trivial⟩ ?_
 refine W.seq<|W.region rfl ?_
 refine Ops.box (fun yR=>?_)
 refine agb rfl rfl rfl<|pq<|W.seq<|W.seq<|W.region rfl ?_
 refine agY rfl ?_
 refine agX rfl ?_
 refine qm rfl rfl rfl ?_
 refine cp (fun h' hE hL=>ayu _ h' _ _ _) ?_
 refine agW (xU rfl rfl) rfl ?_
 refine qm rfl rfl rfl ?_
 refine Ops.RV (fun aM0=>?_) (fun aM0=>?_)
 ·refine Ops.no ?_
  refine Ops.no ?_
  refine Ops.no ?_
  refine Ops.no ?_
  refine Ops.no ?_
  refine agW (dG rfl rfl rfl) rfl ?_
  refine pq ?_
  refine W.dW ?_
  refine W.seq<|W.region rfl<|agb rfl rfl rfl<|pq<|W.ret<|aY ?_
  exfalso
  simp only[Bool.not_eq_true',decide_eq_false_iff_not]at*
  omega
 ·refine oq (ay rfl rfl) rfl (ak rfl rfl rfl) rfl rfl ?_
  refine oq (iQ rfl rfl) rfl (ak rfl rfl rfl) rfl rfl ?_
  refine oq (aN rfl rfl) rfl (ak rfl rfl rfl) rfl rfl ?_
  refine cp (fun h' hE hL=>ayu _ h' _ _ _) ?_
  refine oq (xU rfl rfl) rfl (ak rfl rfl rfl) rfl rfl ?_
  refine agW (iH rfl rfl rfl) rfl ?_
  refine pq ?_
  refine W.cond rfl (fun c16=>?_) (fun c16=>?_)
  ·refine W.seq<|W.region rfl<|agb rfl rfl rfl<|pq<|W.ret<|aY ?_
   exfalso
   simp only[Bool.not_eq_true',decide_eq_false_iff_not]at*
   omega
  ·refine W.skip<|aA<|W.seq<|W.seq<|W.region rfl ?_
   refine agY rfl ?_
   refine agX rfl ?_
   refine agY rfl ?_
   refine agX rfl ?_
   refine agW (rC rfl rfl rfl) rfl ?_
   refine pq ?_
   refine W.bC rfl (fun c21=>?_) (fun c21=>?_)
   ·refine W.seq<|W.region rfl<|agb rfl rfl rfl<|pq<|W.ret<|aY ?_
    exact absurd c21 (by omega)
   ·refine W.skip<|aA<|W.seq<|W.region rfl<|agb rfl rfl rfl<|pq<|W.ret ?_
    exact uZ rfl

theorem aCD(main:Side)(h:Hp)(l:List Spn)(v:Value)(many m:Int)(hf:Sl h Spn.row v l)(h1:1≤l.length)(h2:(l.length:Int)≤many)(h3:l.length≤1000)(hs:∀s∈l,0≤s.lo∧s.lo≤s.hi∧s.hi≤m):Pu prog main azz #[v,I many,I m] h (I 0):=by
 obtain⟨a,cap,rfl⟩:=hf.dA
 refine dV.aG aBK rfl (by show 3≤33;decide) [(0,.slice a l.length cap),(1,I many),(2,I m)] ⟨rfl,rfl,rfl,trivial⟩ ?_
 refine W.seq<|W.region rfl<|agb rfl rfl rfl<|pq<|W.seq<|W.seq<|W.region rfl<|qm rfl rfl rfl ?_
 refine agW (dM rfl rfl) rfl ?_
 refine agb rfl rfl rfl<|pq<|W.block<|W.seq<|W.region rfl<|qm rfl rfl rfl ?_
 refine agW (fO rfl rfl rfl) rfl ?_
 refine agb rfl rfl rfl<|pq ?_
 refine W.bC rfl (fun c13=>?_) (fun c13=>?_)
 ·refine W.seq<|W.region rfl<|agb rfl rfl rfl<|pq<|W.ret<|cZ<|aY ?_
  exfalso
  omega
 ·refine W.seq<|W.region rfl<|qm rfl rfl rfl<|qm rfl rfl rfl ?_
  refine agW (rC rfl rfl rfl) rfl ?_
  refine agb rfl rfl rfl<|pq ?_
  refine W.bC rfl (fun c16=>?_) (fun c16=>?_)
  ·refine W.seq<|W.region rfl<|agb rfl rfl rfl<|pq<|W.ret<|cZ<|aY ?_
   exfalso
   omega
  ·refine W.skip<|dI<|aA<|W.seq<|W.seq<|W.region rfl<|qm rfl rfl rfl ?_
   refine agW (dM rfl rfl) rfl ?_
   refine qm rfl rfl rfl<|pq<|W.block ?_
   refine W.loop (σ:=Nat) (fun k=>k≤l.length) (fun k=>[(22,I k),(21,I l.length),(20,.slice a l.length cap),(2,I m)]) (fun _=>[]) (fun k=>l.length-k) 0 (Nat.zero_le _) ⟨rfl,rfl,rfl,rfl,trivial⟩ .refl ?_
   rintro k hk
   refine W.seq<|W.region rfl ?_
   refine agW (fO rfl rfl rfl) rfl ?_
   refine pq<|W.seq ?_
   refine W.bC rfl (fun c23=>?_) (fun c23=>?_)
   ·obtain⟨p,hp,hdr⟩:=has (show k<l.length by omega)
    have hps:=hs p (List.mem_of_getElem? hp)
    obtain⟨b,off,c,E,fz,rfl,hb,hx,hy,hz⟩:=hf.at hp
    have hx':c.extract (off+k*2) (off+k*2+2)= #[I p.lo,I p.hi]:=hx
    clear hx hz
    refine W.skip<|aA<|W.seq<|W.block<|W.seq<|W.region rfl ?_
    refine ag3 rfl ?_
    first | refine ag2 rfl ?_ | refine agW (ady rfl rfl) rfl ?_
    refine Ops.new (fun Uw=>?_)
    first | refine Ops.jP ?_ | refine Ops.nY ?_
    refine pq<|W.seq<|W.region rfl ?_
    first | refine ag2 rfl ?_ | refine agW (ady rfl rfl) rfl ?_
    refine qm rfl rfl rfl ?_
    refine cp (fun h' hE hL=>aF8 _ h' p m hps) ?_
    refine agb rfl rfl rfl<|pq<|W.seq<|W.region rfl<|qm rfl rfl rfl ?_
    refine agW (nG rfl rfl rfl) rfl ?_
    refine pq ?_
    refine W.bC rfl (fun c30=>?_) (fun c30=>?_)
    ·refine W.seq<|W.region rfl<|qm rfl rfl rfl<|agb rfl rfl rfl<|pq<|W.ret<|cZ<|aY<|aY ?_
     refine cZ<|aY ?_
     exact absurd rfl ‹_›
    ·refine W.skip<|dI<|aA<|W.region rfl ?_
     refine ag1 rfl ?_
     refine qm rfl rfl rfl<|pq ?_
     exact⟨rfl,k+1,by omega,by omega,⟨rfl,rfl,rfl,rfl,trivial⟩,TW⟩
   ·skip
    refine W.exit<|bP<|bP<|gG<|aA<|W.seq<|W.region rfl<|agb rfl rfl rfl<|pq ?_
    refine W.ret ?_
    exact uZ rfl

theorem aFb(main:Side)(h:Hp)(m1 m2 m3:Int)(v:Value)(hf:Sl h fH v [m1,m2,m3])(hs:1≤m1∧m1<m2∧m2<m3∧m3≤60):Pu prog main azA #[v] h (I 0):=by
 obtain⟨l,hl⟩:∃l,l=[m1,m2,m3]:=⟨_,rfl⟩
 rw[←hl]at hf
 have h3:l.length=3:=by rw[hl];rfl
 have hm:∀m∈l,1≤m∧m≤60:=by
  rw[hl];intro m hm
  simp only[List.mem_cons,List.not_mem_nil,or_false]at hm
  omega
 have g0:l[0]? =some m1:=by rw[hl];rfl
 have g1:l[1]? =some m2:=by rw[hl];rfl
 have g2:l[2]? =some m3:=by rw[hl];rfl
 obtain⟨a,cap,rfl⟩:=hf.dA
 obtain⟨b,off,c,E,fz,e3,hb,hx,hy,hz⟩:=hf.at g0
 cases e3
 have x0:c[off+0*1+0]? =some (I m1):=hz 0 (by decide)
 clear hx hz hy
 obtain⟨b',off',c',E',fz',e3,hb',hx,hy,hz⟩:=hf.at g1
 cases e3
 rw[hb]at hb'
 cases hb'
 have x1:c[off+1*1+0]? =some (I m2):=hz 0 (by decide)
 clear hx hz hy
 obtain⟨b',off',c',E',fz',e3,hb',hx,hy,hz⟩:=hf.at g2
 cases e3
 rw[hb]at hb'
 cases hb'
 have x2:c[off+2*1+0]? =some (I m3):=hz 0 (by decide)
 clear hx hz hy
 refine dV.aG aBL rfl (by show 1≤34;decide) [(0,.slice (some ⟨b,off,none⟩) l.length cap)] ⟨rfl,trivial⟩ ?_
 refine W.seq<|W.region rfl<|agb rfl rfl rfl<|pq<|W.seq<|W.seq<|W.region rfl<|qm rfl rfl rfl ?_
 refine agW (dM rfl rfl) rfl ?_
 refine agW (nG rfl rfl rfl) rfl ?_
 refine pq ?_
 refine W.bC rfl (fun c7=>?_) (fun c7=>?_)
 ·refine W.seq<|W.region rfl<|agb rfl rfl rfl<|pq<|W.ret<|aY ?_
  exfalso
  omega
 ·refine W.skip<|aA<|W.seq<|W.seq<|W.region rfl<|qm rfl rfl rfl ?_
  refine agW (dM rfl rfl) rfl ?_
  refine qm rfl rfl rfl<|pq<|W.block ?_
  refine W.loop (σ:=Nat) (fun k=>k≤l.length) (fun k=>[(10,I k),(9,I l.length),(8,.slice (some ⟨b,off,none⟩) l.length cap),(0,.slice (some ⟨b,off,none⟩) l.length cap)]) (fun _=>[]) (fun k=>l.length-k) 0 (Nat.zero_le _) ⟨rfl,rfl,rfl,rfl,trivial⟩ .refl ?_
  rintro k hk
  refine W.seq<|W.region rfl ?_
  refine agW (fO rfl rfl rfl) rfl ?_
  refine pq<|W.seq ?_
  refine W.bC rfl (fun c11=>?_) (fun c11=>?_)
  ·obtain⟨p,hp,hdr⟩:=has (show k<l.length by omega)
   have hps:=hm p (List.mem_of_getElem? hp)
   obtain⟨b',off',c',E',fz',e3,hb',hx,hy,hz⟩:=hf.at hp
   cases e3
   rw[hb]at hb'
   cases hb'
   have hx':c[off+k*1+0]? =some (I p):=hz 0 (by decide)
   clear hx hz
   refine W.skip<|aA<|W.seq<|W.block<|W.seq<|W.region rfl ?_
   refine ag3 rfl ?_
   refine agX rfl ?_
   refine agb rfl rfl rfl<|pq<|W.seq<|W.region rfl<|qm rfl rfl rfl ?_
   refine cp (fun h' hE hL=>ayu _ h' _ _ _) ?_
   refine agW (xU rfl rfl) rfl ?_
   refine pq ?_
   refine W.cond rfl (fun c16=>?_) (fun c16=>?_)
   ·refine W.seq<|W.region rfl<|agb rfl rfl rfl<|pq<|W.ret<|cZ<|aY<|aY<|cZ ?_
    refine aY ?_
    exfalso
    simp only[Bool.not_eq_true',decide_eq_false_iff_not]at*
    omega
   ·refine W.skip<|dI<|aA<|W.region rfl ?_
    refine ag1 rfl ?_
    refine qm rfl rfl rfl<|pq ?_
    exact⟨rfl,k+1,by omega,by omega,⟨rfl,rfl,rfl,rfl,trivial⟩,TW⟩
  ·skip
   refine W.exit<|bP<|bP<|gG<|aA<|W.seq<|W.seq ?_
   refine W.rE (n:=16) rfl ?_
   refine dn 0 (aN rfl rfl) rfl ?_
   first | refine dn 1 (G_ rfl rfl rfl) rfl ?_ | refine dn 1 (o_ rfl rfl rfl) rfl ?_
   refine dn 2 (iQ rfl rfl) rfl ?_
   refine dn 3 (aN rfl rfl) rfl ?_
   first | refine dn 4 (G_ rfl rfl rfl) rfl ?_ | refine dn 4 (o_ rfl rfl rfl) rfl ?_
   refine dn 5 (iQ rfl rfl) rfl ?_
   refine dn 6 (IJ rfl rfl rfl) rfl ?_
   refine dn 7 (aN rfl rfl) rfl ?_
   refine Any.ask (d':=25) (fun aM1=>?_) (fun aM1=>?_)
   ·refine ap (i:=8) rfl rfl rfl rfl rfl rfl ?_
    refine ap (i:=9) rfl rfl rfl rfl rfl rfl ?_
    refine ap (i:=10) rfl rfl rfl rfl rfl rfl ?_
    refine ap (i:=11) rfl rfl rfl rfl rfl rfl ?_
    refine ap (i:=12) rfl rfl rfl rfl rfl rfl ?_
    refine ap (i:=13) rfl rfl rfl rfl rfl rfl ?_
    refine ap (i:=14) rfl rfl rfl rfl rfl rfl ?_
    refine dn 15 (dG rfl rfl rfl) rfl ?_
    refine az ?_
    refine aA ?_
    refine W.dW ?_
    refine W.seq<|W.region rfl<|agb rfl rfl rfl<|pq<|W.ret<|aY ?_
    exfalso
    first | omega | (simp at*;omega)
   ·refine aq (i:=8) (aN rfl rfl) rfl (b_ rfl rfl rfl rfl) rfl rfl ?_
    first | refine aq (i:=9) (G_ rfl rfl rfl) rfl (b_ rfl rfl rfl rfl) rfl rfl ?_ | refine aq (i:=9) (o_ rfl rfl rfl) rfl (b_ rfl rfl rfl rfl) rfl rfl ?_
    refine aq (i:=10) (iQ rfl rfl) rfl (b_ rfl rfl rfl rfl) rfl rfl ?_
    refine aq (i:=11) (aN rfl rfl) rfl (b_ rfl rfl rfl rfl) rfl rfl ?_
    first | refine aq (i:=12) (G_ rfl rfl rfl) rfl (b_ rfl rfl rfl rfl) rfl rfl ?_ | refine aq (i:=12) (o_ rfl rfl rfl) rfl (b_ rfl rfl rfl rfl) rfl rfl ?_
    refine aq (i:=13) (iQ rfl rfl) rfl (b_ rfl rfl rfl rfl) rfl rfl ?_
    refine aq (i:=14) (IJ rfl rfl rfl) rfl (b_ rfl rfl rfl rfl) rfl rfl ?_
    refine dn 15 (iH rfl rfl rfl) rfl ?_
    refine az ?_
    refine aA ?_
    refine W.bC rfl (fun c33=>?_) (fun c33=>?_)
    ·refine W.seq<|W.region rfl<|agb rfl rfl rfl<|pq<|W.ret<|aY ?_
     exfalso
     first | omega | (simp at*;omega)
    ·refine W.skip<|aA<|W.seq<|W.region rfl<|agb rfl rfl rfl<|pq<|W.ret ?_
     exact uZ rfl
end Go.aS
