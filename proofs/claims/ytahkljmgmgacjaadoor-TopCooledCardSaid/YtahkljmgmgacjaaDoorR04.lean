/- A group in numbers: how its workers stand to the mutex and to the wait group, what the shared cells hold; kept by every act. Conditions: none; no program in sight. (And 11 texts more.) -/
import Derived.Test.YtahkljmgmgacjaaDoorR03
import Derived.Conc.Pipeline3
set_option linter.unusedVariables false
set_option linter.unusedSimpArgs false
set_option linter.unusedSectionVars false

/- A group in numbers: how its workers stand to the mutex and to the wait group, what the shared cells hold; kept by every act. Conditions: none; no program in sight. -/
namespace Go.aS
structure WA where
 r:MR
 wr:WR
 il:Bool
 old:Option Nat
 B:Nat

def cR(as:List WA):Cn:=fun r=>(as.map (·.r)).count r
def cW(as:List WA):Wn:=fun r=>(as.map (·.wr)).count r

theorem count_set{α:Type}[DecidableEq α]{l:List α}{i:Nat}{a b:α}(h:l[i]? =some a)(q:α):(l.set i b).count q+(if a=q then 1 else 0)=l.count q+(if b=q then 1 else 0):=by
 induction l generalizing i with
 | nil=>simp at h
 | cons y l ih=>
  cases i with
  | zero=>
   simp only[List.getElem?_cons_zero,Option.some.injEq]at h
   subst h
   simp only[List.set_cons_zero,List.count_cons,beq_iff_eq]
   omega
  | succ i=>
   simp only[List.getElem?_cons_succ]at h
   have:=ih h
   simp only[List.set_cons_succ,List.count_cons,beq_iff_eq]
   omega
theorem uI{as:List WA}{i:Nat}{a a':WA}(h:as[i]? =some a):Mv (cR as) a.r a'.r (cR (as.set i a')):=by
 intro q
 have h':(as.map (·.r))[i]? =some a.r:=by simp[h]
 have:=count_set (b:=a'.r) h' q
 simpa[cR,List.map_set]using this
theorem zq{as:List WA}{i:Nat}{a a':WA}(h:as[i]? =some a):Wv (cW as) a.wr a'.wr (cW (as.set i a')):=by
 intro q
 have h':(as.map (·.wr))[i]? =some a.wr:=by simp[h]
 have:=count_set (b:=a'.wr) h' q
 simpa[cW,List.map_set]using this
theorem rJ{as:List WA}{i:Nat}{a:WA}(h:as[i]? =some a):0<cR as a.r:=List.count_pos_iff.2 (List.mem_map.2 ⟨a,List.mem_of_getElem? h,rfl⟩)
theorem Rl{as:List WA}{i:Nat}{a:WA}(h:as[i]? =some a):0<cW as a.wr:=List.count_pos_iff.2 (List.mem_map.2 ⟨a,List.mem_of_getElem? h,rfl⟩)
theorem UY{as:List WA}{r:MR}(h:0<cR as r):∃(i:Nat) (a:WA),as[i]? =some a∧a.r=r:=by
 obtain⟨a,h1,h2⟩:=List.mem_map.1 (List.count_pos_iff.1 h)
 obtain⟨i,hi⟩:=List.getElem?_of_mem h1
 exact⟨i,a,hi,h2⟩
theorem UZ{as:List WA}{r:WR}(h:0<cW as r):∃(i:Nat) (a:WA),as[i]? =some a∧a.wr=r:=by
 obtain⟨a,h1,h2⟩:=List.mem_map.1 (List.count_pos_iff.1 h)
 obtain⟨i,hi⟩:=List.getElem?_of_mem h1
 exact⟨i,a,hi,h2⟩
theorem count_le{α:Type}[DecidableEq α](l:List α)(q:α):l.count q≤l.length:=List.count_le_length
theorem WY{as:List WA}{a:WA}(q:MR):cR (as++[a]) q=cR as q+(if q=a.r then 1 else 0):=by
 simp only[cR,List.map_append,List.count_append,List.map_cons,List.map_nil,List.count_cons,List.count_nil,beq_iff_eq,Nat.zero_add]
 congr 1
 by_cases h:a.r=q
 ·rw[if_pos h,if_pos h.symm]
 ·rw[if_neg h,if_neg (Ne.symm h)]
theorem abj{as:List WA}{a:WA}(q:WR):cW (as++[a]) q=cW as q+(if q=a.wr then 1 else 0):=by
 simp only[cW,List.map_append,List.count_append,List.map_cons,List.map_nil,List.count_cons,List.count_nil,beq_iff_eq,Nat.zero_add]
 congr 1
 by_cases h:a.wr=q
 ·rw[if_pos h,if_pos h.symm]
 ·rw[if_neg h,if_neg (Ne.symm h)]

def U0(a:WA)(x:XS):Prop:=a.il=true→(∀o,a.old=some o→x.E≤a.B∧(x.m.st≠o→x.E<a.B))∧(a.old=none→x.E<a.B)∧(a.r= .hnd→∀o,a.old=some o→o / 8≤x.m.n)

structure N1(left:Nat)(p:MP)(x:XS)(as:List WA):Prop where
 tV:jD x.m (cR as)
 Ik:fQ x.g p (cW as)
 E:x.E=en (cR as) x.m.ms left
 snap:∀(i:Nat) (a:WA),as[i]? =some a→U0 a x
 num:as.length+left≤63
 tok:∀t,p= .add t→t≤1
 live:∀(i:Nat) (a:WA),as[i]? =some a→a.wr≠ .live→a.r= .fin

structure Mon(x x':XS)(me:MR):Prop where
 le:x'.E≤x.E
 lt:x'.m.st≠x.m.st→x'.E<x.E
 n:me≠ .hnd→x.m.s=1→x.m.n≤x'.m.n

section
variable{left:Nat}{p:MP}{x x':XS}{as:List WA}{i:Nat}{a a':WA}
theorem U0.mon{b:WA}(h:U0 b x)(m:Mon x x' a.r)(hn:a.r= .hnd→b.r≠ .hnd)(hs:b.r= .hnd→x.m.s=1):U0 b x':=by
 intro hb
 obtain⟨h1,h2,h3⟩:=h hb
 have m1:=m.le
 refine⟨fun o ho=>?_,fun ho=>?_,fun hr o ho=>?_⟩
 ·obtain⟨h4,h5⟩:=h1 o ho
  refine⟨by omega,fun hne=>?_⟩
  by_cases he:x'.m.st=x.m.st
  ·rw[he]at hne;have:=h5 hne;omega
  ·have:=m.lt he;omega
 ·have:=h2 ho;omega
 ·have:=h3 hr o ho
  have:=m.n (fun e=>hn e hr) (hs hr)
  omega

theorem fJ{α:Type}{l:List α}{i j:Nat}{b y:α}(h:(l.set i b)[j]? =some y):(j=i∧y=b∧i<l.length)∨(j≠i∧l[j]? =some y):=by
 rw[List.getElem?_set]at h
 split at h
 ·rename_i e
  subst e
  split at h
  ·rename_i hl
   cases h
   exact .inl ⟨rfl,rfl,hl⟩
  ·cases h
 ·rename_i e
  exact .inr ⟨fun x=>e x.symm,h⟩

theorem N1.OY(H:N1 left p x as)(h:0<cR as .hnd):x.m.s=1:=(H.tV.OY h).1
theorem N1.Zq(H:N1 left p x as):cR as .hnd≤1:=by
 obtain⟨a0,a1,a2,a3⟩:=H.tV;omega

theorem N1.mu(H:N1 left p x as)(hi:as[i]? =some a)(hwr:a'.wr=a.wr)(hwl:a.wr= .live)(hg:x'.g=x.g)(hm:jD x'.m (cR (as.set i a')))(hE:x'.E=en (cR (as.set i a')) x'.m.ms left)(hmon:Mon x x' a.r)(hs:U0 a' x'):N1 left p x' (as.set i a'):=by
 have hcw:cW (as.set i a')=cW as:=by
  funext q
  have:=zq (a':=a') hi q
  rw[hwr]at this
  omega
 refine⟨hm,by rw[hcw,hg];exact H.Ik,hE,fun j b hj=>?_,by rw[List.length_set];exact H.num,H.tok,fun j b hj hb=>?_⟩
 ·rcases fJ hj with⟨rfl,rfl,_⟩ | ⟨hne,hj⟩
  ·exact hs
  ·refine(H.snap j b hj).mon hmon (fun ha hb=>?_) fun hb=>H.OY (by rw[←hb];exact rJ hj)
   have h1:=uI (a':={a' with r:=.fin}) hi .hnd
   have h2:0<cR (as.set i {a' with r:=.fin}) .hnd:=by
    have:(as.set i {a' with r:=.fin})[j]? =some b:=by rw[List.getElem?_set,if_neg (Ne.symm hne)];exact hj
    rw[←hb];exact rJ this
   have h3:=H.Zq
   simp only[ha,if_true,reduceCtorEq,if_false]at h1
   omega
 ·rcases fJ hj with⟨rfl,rfl,_⟩ | ⟨hne,hj⟩
  ·exact absurd (hwr.trans hwl) hb
  ·exact H.live j b hj hb

theorem N1.wg(H:N1 left p x as)(hi:as[i]? =some a)(hr:a'.r=a.r)(hil:a'.il=false)(hfin:a'.wr≠ .live→a'.r= .fin){p':MP}{g':DV}(hw:fQ g' p' (cW (as.set i a')))(ht:∀t,p'= .add t→t≤1):N1 left p' {x with g:=g'} (as.set i a'):=by
 have hcr:cR (as.set i a')=cR as:=by
  funext q
  have:=uI (a':=a') hi q
  rw[hr]at this
  omega
 refine⟨by rw[hcr];exact H.tV,hw,by rw[hcr];exact H.E,fun j b hj=>?_,by rw[List.length_set];exact H.num,ht,fun j b hj hb=>?_⟩
 ·rcases fJ hj with⟨rfl,rfl,_⟩ | ⟨hne,hj⟩
  ·intro h;rw[hil]at h;cases h
  ·exact H.snap j b hj
 ·rcases fJ hj with⟨rfl,rfl,_⟩ | ⟨hne,hj⟩
  ·exact hfin hb
  ·exact H.live j b hj hb
theorem N1.main(H:N1 left p x as){p':MP}{g':DV}(hw:fQ g' p' (cW as))(ht:∀t,p'= .add t→t≤1):N1 left p' {x with g:=g'} as:=⟨H.tV,hw,H.E,H.snap,H.num,ht,H.live⟩

theorem N1.WJ(H:N1 left p x as):x.m.n≤64∧x.m.ms≤64∧x.g.v≤64∧x.g.w≤1∧x.g.ws≤1:=by
 have h1:=H.tV.WJ
 have hn:=H.num
 have hc:∀q,cR as q≤as.length:=fun q=>by have:=count_le (as.map (·.r)) q;simpa[cR]using this
 have hcw:∀q,cW as q≤as.length:=fun q=>by have:=count_le (as.map (·.wr)) q;simpa[cW]using this
 obtain⟨a0,a1,a2,a3⟩:=H.tV
 have hs:=H.Ik.small H.tok
 have e1:=hc .AP;have e2:=hc .tok;have e3:=hc .hnd
 have e4:=hcw .live;have e5:=hcw .s1
 have hsum:cR as .AP+cR as .tok+cR as .hnd≤as.length:=by
  have key:∀l:List MR,l.count .AP+l.count .tok+l.count .hnd≤l.length:=by
   intro l
   induction l with
   | nil=>simp
   | cons y l ih=>cases y <;>simp only[List.count_cons,List.length_cons] <;>simp <;>omega
  have:=key (as.map (·.r))
  simpa[cR]using this
 have afQ:cW as .live+cW as .s1≤as.length:=by
  have key:∀l:List WR,l.count .live+l.count .s1≤l.length:=by
   intro l
   induction l with
   | nil=>simp
   | cons y l ih=>cases y <;>simp only[List.count_cons,List.length_cons] <;>simp <;>omega
  have:=key (as.map (·.wr))
  simpa[cW]using this
 refine⟨by omega,?_,by omega,hs.2.1,hs.2.2⟩
 by_cases h:x.m.s=0
 ·have:=a2 h;omega
 ·have:=a3 (by omega);omega
end
end Go.aS

/- A group in numbers: each act. Conditions: none; no program in sight. -/
namespace Go.aS
theorem kQ.uJ{x y:kQ}{n:Nat}(hy:y.l≤1∧y.w≤1∧y.s≤1)(hms:y.ms=x.ms)(h:y.st=n):x.set n=y:=by
 subst h
 obtain⟨l,w,s,n,ms⟩:=y
 obtain⟨l',w',s',n',ms'⟩:=x
 simp only[kQ.set,kQ.st]at*
 subst hms
 congr <;>omega

section
variable{left:Nat}{p:MP}{x:XS}{as:List WA}{i:Nat}{a:WA}
theorem N1.TF(H:N1 left p x as)(hi:as[i]? =some a)(hil:a.il=true):MF a.r a.old a.B x:=by
 have hn:=H.WJ
 have hs:=H.snap i a hi hil
 refine⟨H.tV.bits,hn.1,hn.2.1,hs.1,hs.2.1,fun h=>H.tV.WI (by rw[←h];exact rJ hi),fun h=>H.tV.aaN (by rw[←h];exact rJ hi),fun h=>H.tV.acR (by rw[←h];exact rJ hi),fun h=>?_⟩
 have:=H.tV.OY (by rw[←h];exact rJ hi)
 exact⟨this.1,this.2.1,this.2.2.1,this.2.2.2,hs.2.2 h⟩

theorem Nq{a':WA}(hi:as[i]? =some a)(hr:a'.r=a.r):cR (as.set i a')=cR as:=by
 funext q
 have:=uI (a':=a') hi q
 rw[hr]at this
 omega

def XS.mu(x:XS)(m:kQ)(left:Nat)(as:List WA):XS:=⟨m,x.g,en (cR as) m.ms left⟩

theorem N1.load(H:N1 left p x as)(hi:as[i]? =some a)(hwl:a.wr= .live):
  N1 left p (x.mu x.m left (as.set i {a with r:=kE a.r x.m,old:=some x.m.st,B:=x.E,il:=true})) (as.set i {a with r:=kE a.r x.m,old:=some x.m.st,B:=x.E,il:=true})∧(x.mu x.m left (as.set i {a with r:=kE a.r x.m,old:=some x.m.st,B:=x.E,il:=true})).E≤x.E:=by
 have key:jD x.m (cR (as.set i {a with r:=kE a.r x.m,old:=some x.m.st,B:=x.E,il:=true}))∧en (cR (as.set i {a with r:=kE a.r x.m,old:=some x.m.st,B:=x.E,il:=true})) x.m.ms left≤x.E:=by
  have hm:=uI (a':={a with r:=kE a.r x.m,old:=some x.m.st,B:=x.E,il:=true}) hi
  by_cases hr:kE a.r x.m=a.r
  ·rw[Nq hi hr]
   exact⟨H.tV,Nat.le_of_eq H.E.symm⟩
  ·have hb:=H.tV.bits
   have hE:=H.E
   generalize cR (as.set i {a with r:=kE a.r x.m,old:=some x.m.st,B:=x.E,il:=true})=c' at hm⊢
   rw[hE]
   simp only at hm
   cases har:a.r with
   | tok=>
    rw[har]at hm hr
    simp only[kE]at hm hr
    by_cases hs:x.m.s=1
    ·rw[if_pos hs]at hm
     exact H.tV.handed hm hs
    ·rw[if_neg hs]at hm
     exact H.tV.woken hm (by omega)
   | Nh=>
    rw[har]at hm hr
    simp only[kE]at hm hr
    by_cases hs:x.m.n=0∨x.m.l=1∨x.m.w=1∨x.m.s=1
    ·rw[if_pos hs]at hm
     exact H.tV.leave hm hs
    ·rw[if_neg hs]at hr;exact absurd rfl hr
   | _=>rw[har]at hr;exact absurd rfl hr
 refine⟨?_,key.2⟩
 refine H.mu hi rfl hwl rfl key.1 rfl ⟨key.2,fun h=>absurd rfl h,fun _ _=>Nat.le_refl _⟩ fun _=>⟨fun o ho=>?_,fun ho=>(by cases ho),fun hr o ho=>?_⟩
 ·simp only[Option.some.injEq]at ho
  exact⟨key.2,fun hne=>absurd ho hne⟩
 ·simp only[Option.some.injEq]at ho
  subst ho
  show x.m.st / 8≤x.m.n
  have hb:=H.tV.bits
  unfold kQ.st;omega

theorem N1.miss{o:Nat}(H:N1 left p x as)(hi:as[i]? =some a)(hwl:a.wr= .live)(hil:a.il=true)(ho:a.old=some o∨a.old=none)(hne:x.m.st≠o):N1 left p x (as.set i {a with old:=none}):=by
 have hc:cR (as.set i {a with old:=none})=cR as:=Nq hi rfl
 refine H.mu hi rfl hwl rfl (by rw[hc];exact H.tV) (by rw[hc];exact H.E) ⟨Nat.le_refl _,fun h=>absurd rfl h,fun _ _=>Nat.le_refl _⟩ fun _=>⟨fun o ho=>(by cases ho),fun _=>?_,fun _ o ho=>(by cases ho)⟩
 have:=H.snap i a hi hil
 rcases ho with ho | ho
 ·exact(this.1 o ho).2 hne
 ·exact this.2.1 ho

theorem N1.hit{o n:Nat}{r':MR}{y:kQ}(H:N1 left p x as)(hi:as[i]? =some a)(hwl:a.wr= .live)(hil:a.il=true)(ho:a.old=some o∨a.old=none)(he:x.m.st=o)(hy:y.l≤1∧y.w≤1∧y.s≤1)(hoy:o=y.st)(hc:TB a.r r' y n):
  N1 left p (x.mu (x.m.set n) left (as.set i {a with r:=r',old:=none})) (as.set i {a with r:=r',old:=none}):=by
 have hb:=H.tV.bits
 have hi':=kQ.abe hb hy (he.trans hoy)
 have hE:=H.E
 have hm:=uI (a':={a with r:=r',old:=none}) hi
 have hsn:=H.snap i a hi hil
 have hEB:x.E≤a.B:=by
  rcases ho with ho | ho
  ·exact(hsn.1 o ho).1
  ·have:=hsn.2.1 ho;omega
 have fin:∀m':kQ,x.m.set n=m'→jD m' (cR (as.set i {a with r:=r',old:=none}))→en (cR (as.set i {a with r:=r',old:=none})) x.m.ms left<en (cR as) x.m.ms left→m'.ms=x.m.ms→(a.r≠ .hnd→x.m.s=1→x.m.n≤m'.n)→
   N1 left p (x.mu (x.m.set n) left (as.set i {a with r:=r',old:=none})) (as.set i {a with r:=r',old:=none}):=by
  intro m' e1 h1 h2 h3 h4
  have h5:(x.mu (x.m.set n) left (as.set i {a with r:=r',old:=none})).E<x.E:=by
   show en _ (x.m.set n).ms left<x.E
   rw[e1,h3,hE];exact h2
  refine H.mu hi rfl hwl rfl (by rw[show(x.mu (x.m.set n) left (as.set i {a with r:=r',old:=none})).m=m' from e1];exact h1) rfl ⟨Nat.le_of_lt h5,fun _=>h5,fun h6 h7=>?_⟩ fun _=>⟨fun o ho=>(by cases ho),fun _=>Nat.lt_of_lt_of_le h5 hEB,fun _ o ho=>(by cases ho)⟩
  show x.m.n≤(x.m.set n).n
  rw[e1];exact h4 h6 h7
 have hst:x.m.st=8*x.m.n+4*x.m.s+2*x.m.w+x.m.l:=rfl
 have hag:a.r= .FD→x.m.w=1∧x.m.s=0:=fun h=>H.tV.aaN (by rw[←h];exact rJ hi)
 rw[hoy]at he
 have agf:=he
 cases har:a.r <;>rw[har]at hc hm <;>cases r' <;>simp only[TB]at hc <;>first | exact hc.elim | skip
 ·
  obtain⟨c1,c2,c3⟩:=hc
  have:=H.tV.spin (left:=left) hm (by omega) (by omega)
  exact fin {x.m with w:=1} (kQ.uJ (by simp only;omega) rfl (by simp only[kQ.st]at*;omega)) this.1 this.2 rfl (fun _ h=>by simp)
 ·
  obtain⟨c1,c3⟩:=hc
  have:=H.tV.queue (left:=left) hm (by omega)
  exact fin {x.m with n:=x.m.n+1} (kQ.uJ (by simp only;omega) rfl (by simp only[kQ.st]at*;omega)) this.1 this.2 rfl (fun _ h=>by simp)
 ·
  obtain⟨c1,c2,c3⟩:=hc
  have:=H.tV.lock (left:=left) hm (by omega) (by omega)
  exact fin {x.m with l:=1} (kQ.uJ (by simp only;omega) rfl (by simp only[kQ.st]at*;omega)) this.1 this.2 rfl (fun _ h=>by simp)
 ·
  obtain⟨c1,c2,c3,c4 | c4⟩:=hc
  ·have:=H.tV.abf (left:=left) hm (by omega)
   exact fin {x.m with n:=x.m.n+1,w:=0} (kQ.uJ (by simp only;omega) rfl (by simp only[kQ.st]at*;omega)) this.1 this.2 rfl (fun _ h=>by simp)
  ·have:=H.tV.abg (left:=left) hm (by omega)
   exact fin {x.m with n:=x.m.n+1,w:=0,s:=1} (kQ.uJ (by simp only;omega) rfl (by simp only[kQ.st]at*;omega)) this.1 this.2 rfl (fun _ h=>by simp)
 ·
  obtain⟨c1,c2,c3,c4⟩:=hc
  have:=H.tV.acP (left:=left) hm (by omega) (by omega)
  exact fin {x.m with l:=1,w:=0} (kQ.uJ (by simp only;omega) rfl (by simp only[kQ.st]at*;omega)) this.1 this.2 rfl (fun _ h=>by simp)
 ·
  obtain⟨c1,c2,c3,c4,c5⟩:=hc
  have:=H.tV.wake (left:=left) hm (by omega) (by omega) (by omega) (by omega)
  exact fin {x.m with n:=x.m.n-1,w:=1} (kQ.uJ (by simp only;omega) rfl (by simp only[kQ.st]at*;omega)) this.1 this.2 rfl (fun _ h=>by omega)

theorem N1.turn{m':kQ}{a':WA}(H:N1 left p x as)(hi:as[i]? =some a)(hwl:a.wr= .live)(hw':a'.wr=a.wr)(h1:jD m' (cR (as.set i a')))(h2:en (cR (as.set i a')) m'.ms left<en (cR as) x.m.ms left)(h4:a.r≠ .hnd→x.m.s=1→x.m.n≤m'.n)
  (h5:(∀o,a'.old=some o→x.E≤a'.B∧m'.st=o)∧(a'.old=none→x.E≤a'.B)) (h6:a'.r≠ .hnd):N1 left p (x.mu m' left (as.set i a')) (as.set i a'):=by
 have hE:=H.E
 have h7:(x.mu m' left (as.set i a')).E<x.E:=by
  show en _ m'.ms left<x.E
  rw[hE];exact h2
 refine H.mu hi hw' hwl rfl h1 rfl ⟨Nat.le_of_lt h7,fun _=>h7,h4⟩ fun _=>⟨fun o ho=>?_,fun ho=>?_,fun h=>absurd h h6⟩
 ·obtain⟨h8,h9⟩:=h5.1 o ho
  exact⟨by omega,fun hne=>absurd h9 hne⟩
 ·have:=h5.2 ho;omega

theorem N1.Kr(H:N1 left p x as)(hi:as[i]? =some a)(hwl:a.wr= .live)(hr:a.r= .hold):
  N1 left p (x.mu (x.m.set (x.m.st-1)) left (as.set i {a with r:=Hl x.m,old:=some (x.m.st-1),B:=x.E})) (as.set i {a with r:=Hl x.m,old:=some (x.m.st-1),B:=x.E}):=by
 have hb:=H.tV.bits
 have hl:=H.tV.WI (by rw[←hr];exact rJ hi)
 have hm:=uI (a':={a with r:=Hl x.m,old:=some (x.m.st-1),B:=x.E}) hi
 have e1:x.m.set (x.m.st-1)={x.m with l:=0}:=kQ.uJ (by simp only;omega) rfl (by simp only[kQ.st];omega)
 rw[e1]
 have e2:({x.m with l:=0}:kQ).st=x.m.st-1:=by simp only[kQ.st];omega
 rw[hr]at hm
 simp only at hm
 have key:jD {x.m with l:=0} (cR (as.set i {a with r:=Hl x.m,old:=some (x.m.st-1),B:=x.E}))∧en (cR (as.set i {a with r:=Hl x.m,old:=some (x.m.st-1),B:=x.E})) x.m.ms left<en (cR as) x.m.ms left:=by
  generalize cR (as.set i {a with r:=Hl x.m,old:=some (x.m.st-1),B:=x.E})=c' at hm⊢
  unfold Hl at hm
  by_cases hs:x.m.s=1
  ·rw[if_pos hs]at hm;exact H.tV.Zm hm hs
  ·rw[if_neg hs]at hm
   by_cases hn:x.m.n=0∨x.m.w=1
   ·rw[if_pos hn]at hm;exact H.tV.Zk hm (by omega) hn
   ·rw[if_neg hn]at hm;exact H.tV.Zl hm (by omega)
 refine H.turn hi hwl rfl key.1 key.2 (fun _ _=>Nat.le_refl _) ⟨fun o ho=>?_,fun ho=>(by cases ho)⟩ ?_
 ·simp only[Option.some.injEq]at ho
  exact⟨Nat.le_refl _,by rw[e2];exact ho⟩
 ·simp only[Hl];split
  ·simp
  ·split <;>simp

theorem N1.uz{keep:Bool}{o:Nat}(H:N1 left p x as)(hi:as[i]? =some a)(hwl:a.wr= .live)(hil:a.il=true)(hr:a.r= .hnd)(ho:a.old=some o)(hk:keep=true→2≤o / 8):
  N1 left p (x.mu (x.m.set (x.m.st- (if keep then 7 else 11))) left (as.set i {a with r:=.hold,old:=none,B:=x.E})) (as.set i {a with r:=.hold,old:=none,B:=x.E}):=by
 have hb:=H.tV.bits
 have hh:=H.tV.OY (by rw[←hr];exact rJ hi)
 have hm:=uI (a':={a with r:=.hold,old:=none,B:=x.E}) hi
 have hn:=(H.snap i a hi hil).2.2 hr o ho
 rw[hr]at hm
 simp only at hm
 cases keep with
 | true=>
  have hk:=hk rfl
  have e1:x.m.set (x.m.st- (if true then 7 else 11))={x.m with l:=1,n:=x.m.n-1}:=kQ.uJ (by simp only;omega) rfl (by simp only[kQ.st,if_true];omega)
  rw[e1]
  have:=H.tV.grab (left:=left) hm (by omega)
  exact H.turn hi hwl rfl this.1 this.2 (fun h=>absurd hr h) ⟨fun o ho=>(by cases ho),fun _=>Nat.le_refl _⟩ (by simp)
 | false=>
  have e1:x.m.set (x.m.st- (if false=true then 7 else 11))={x.m with l:=1,n:=x.m.n-1,s:=0}:=kQ.uJ (by simp only;omega) rfl (by simp only[kQ.st,Bool.false_eq_true,if_false];omega)
  rw[e1]
  have:=H.tV.acQ (left:=left) hm
  exact H.turn hi hwl rfl this.1 this.2 (fun h=>absurd hr h) ⟨fun o ho=>(by cases ho),fun _=>Nat.le_refl _⟩ (by simp)

theorem N1.Hf(H:N1 left p x as)(hi:as[i]? =some a)(hwl:a.wr= .live)(hil:a.il=true)(hr:a.r= .AP)(ho:a.old=none)(hms:x.m.ms≠0):
  N1 left p (x.mu {x.m with ms:=x.m.ms-1} left (as.set i {a with r:=.tok})) (as.set i {a with r:=.tok}):=by
 have hm:=uI (a':={a with r:=.tok}) hi
 rw[hr]at hm
 have:=H.tV.take (left:=left) hm (by omega)
 refine H.turn hi hwl rfl this.1 this.2 (fun _ _=>Nat.le_refl _) ⟨fun o ho'=>?_,fun _=>?_⟩ (by simp)
 ·simp only at ho';rw[ho]at ho';cases ho'
 ·exact Nat.le_of_lt ((H.snap i a hi hil).2.1 ho)
theorem N1.Bh(H:N1 left p x as)(hi:as[i]? =some a)(hwl:a.wr= .live)(hr:a.r= .rel∨a.r= .wK):
  N1 left p (x.mu {x.m with ms:=x.m.ms+1} left (as.set i {a with r:=.fin,old:=none,B:=x.E})) (as.set i {a with r:=.fin,old:=none,B:=x.E}):=by
 have hm:=uI (a':={a with r:=.fin,old:=none,B:=x.E}) hi
 rcases hr with hr | hr <;>rw[hr]at hm
 ·have:=H.tV.post (left:=left) hm
  exact H.turn hi hwl rfl this.1 this.2 (fun _ _=>Nat.le_refl _) ⟨fun o ho'=>(by cases ho'),fun _=>Nat.le_refl _⟩ (by simp)
 ·have:=H.tV.postS (left:=left) hm
  exact H.turn hi hwl rfl this.1 this.2 (fun _ _=>Nat.le_refl _) ⟨fun o ho'=>(by cases ho'),fun _=>Nat.le_refl _⟩ (by simp)

theorem N1.mind{a':WA}(H:N1 left p x as)(hi:as[i]? =some a)(hr:a'.r=a.r)(hw:a'.wr=a.wr)(hs:U0 a' x):N1 left p x (as.set i a'):=by
 have hcr:cR (as.set i a')=cR as:=Nq hi hr
 have hcw:cW (as.set i a')=cW as:=by
  funext q
  have:=zq (a':=a') hi q
  rw[hw]at this
  omega
 refine⟨by rw[hcr];exact H.tV,by rw[hcw];exact H.Ik,by rw[hcr];exact H.E,fun j b hj=>?_,by rw[List.length_set];exact H.num,H.tok,fun j b hj hb=>?_⟩
 ·rcases fJ hj with⟨rfl,rfl,_⟩ | ⟨hne,hj⟩
  ·exact hs
  ·exact H.snap j b hj
 ·rcases fJ hj with⟨rfl,rfl,_⟩ | ⟨hne,hj⟩
  ·rw[hr];exact H.live _ a hi (by rw[←hw];exact hb)
  ·exact H.live j b hj hb

theorem N1.spawn{t:Nat}{a:WA}(H:N1 (left+1) (.add (t+1)) x as)(hr:a.r= .out∨a.r= .fin)(hw:a.wr= .live)(hil:a.il=false)(hE:(a.r= .out→True)):
  N1 left (.add t) {x with E:=en (cR (as++[a])) x.m.ms left} (as++[a]):=by
 have h1:=H.num
 have hle:en (cR (as++[a])) x.m.ms left≤x.E:=by
  rw[H.E]
  simp only[en,WY]
  rcases hr with hr | hr <;>rw[hr] <;>simp <;>omega
 have aez:jD x.m (cR (as++[a])):=by
  obtain⟨a0,a1,a2,a3⟩:=H.tV
  rcases hr with hr | hr <;>refine⟨a0,?_,fun hs=>?_,fun hs=>?_⟩ <;>simp only[WY,hr,reduceCtorEq,if_false,Nat.add_zero] <;>first | exact a1 | exact a2 hs | exact a3 hs
 refine⟨aez,?_,rfl,fun j b hj=>?_,by rw[List.length_append];simp;omega,fun s hs=>?_,fun j b hj hb=>?_⟩
 ·exact H.Ik.spawn fun q=>by rw[abj,hw]
 ·rcases Nat.lt_or_ge j as.length with h | h
  ·rw[List.getElem?_append_left h]at hj
   have:=H.snap j b hj
   intro hbi
   obtain⟨h2,h3,h4⟩:=this hbi
   exact⟨fun o ho=>⟨by have:=(h2 o ho).1;simp only;omega,fun hne=>by have:=(h2 o ho).2 hne;simp only;omega⟩,fun ho=>by have:=h3 ho;simp only;omega,h4⟩
  ·rw[List.getElem?_append_right h]at hj
   have:b=a:=by
    rcases Nat.eq_zero_or_pos (j-as.length)with h0 | h0
    ·rw[h0]at hj;simpa using hj.symm
    ·rw[List.getElem?_eq_none (by simp;omega)]at hj;cases hj
   subst this
   intro h;rw[hil]at h;cases h
 ·have:=H.tok (t+1) rfl
  cases hs;omega
 ·rcases Nat.lt_or_ge j as.length with h | h
  ·rw[List.getElem?_append_left h]at hj
   exact H.live j b hj hb
  ·rw[List.getElem?_append_right h]at hj
   have:b=a:=by
    rcases Nat.eq_zero_or_pos (j-as.length)with h0 | h0
    ·rw[h0]at hj;simpa using hj.symm
    ·rw[List.getElem?_eq_none (by simp;omega)]at hj;cases hj
   subst this
   exact absurd hw hb
end
end Go.aS

/- Runs that end: a place of the starter's, with a measure on the others. Conditions: none; over any program. -/
namespace Go.aS
open Go.Conc (crowd)
def Ends(P:Program)(Q:Machine→Outcome→World→Trace→Prop)(m:Machine)(t:Trace):Prop:=
 ∃n last o w t',runNT P (n+1) m t=(.ended o w,t')∧runN P n m= .next last∧step P last= .ended o w∧Q last o w t'

section
variable{P:Program}{Q:Machine→Outcome→World→Trace→Prop}
theorem Ends.step{m m':Machine}{t:Trace}{ops:Array MemOp}(hs:stepT P m=(.next m',ops))(h:Ends P Q m' (t++ops)):Ends P Q m t:=by
 obtain⟨n,last,o,w,t',h1,h2,h3,h4⟩:=h
 exact⟨n+1,last,o,w,t',by rw[runNT_succ_next hs];exact h1,by rw[runN_succ_next hs];exact h2,h3,h4⟩
theorem Ends.stop{m:Machine}{t:Trace}{ops:Array MemOp}{o:Outcome}{w:World}(hs:stepT P m=(.ended o w,ops))(hq:Q m o w (t++ops)):Ends P Q m t:=
 ⟨0,m,o,w,t++ops,by simp[runNT,hs],rfl,by simp[Go.step,hs],hq⟩

def O8(gs:Array Goroutine):Nat:=gs.toList.countP fun g=>g.status== .running

inductive Move(P:Program)(Q:Machine→Outcome→World→Trace→Prop){α:Type}(R:α→α→Prop)(Inv:α→Array Goroutine→World→Trace→Prop)(c:α)(gs:Array Goroutine)(w:World)(t:Trace)(sl:Option (Nat×Nat))(i:Nat):Prop
 | on {m':Machine} {ops:Array MemOp} (h:runT P (crowd gs w sl) i=(.next m',ops)) (he:Ends P Q m' (t++ops))
 | over {o:Outcome} {w':World} {ops:Array MemOp} (h:runT P (crowd gs w sl) i=(.ended o w',ops)) (he:∀sl' d,Q (crowd gs (w.at d) sl') o w' (t++ops))
 | less {c':α} {gs':Array Goroutine} {w':World} {ops:Array MemOp} (h:runT P (crowd gs w sl) i=(.next (crowd gs' w' sl),ops)) (hI:Inv c' gs' w' (t++ops)) (hR:R c' c)
 | wait {gs':Array Goroutine} {w':World} {ops:Array MemOp} (h:runT P (crowd gs w sl) i=(.next (crowd gs' w' sl),ops)) (hI:Inv c gs' w' (t++ops)) (hn:O8 gs'<O8 gs)

theorem node{α:Type}{R:α→α→Prop}{Inv:α→Array Goroutine→World→Trace→Prop}
  (hat:∀c gs w t d,Inv c gs w t→Inv c gs (w.at d) t)
  (pick:∀c gs w t,Inv c gs w t→(∀g∈gs,Conc.awake g)∧∃(i:Nat) (g:Goroutine),gs[i]? =some g∧g.status= .running)
  (move:∀c,Acc R c→∀gs w t sl i g,Inv c gs w t→gs[i]? =some g→g.status= .running→Move P Q R Inv c gs w t sl i):
  ∀c,Acc R c→∀gs w t sl,Inv c gs w t→Ends P Q (crowd gs w sl) t:=by
 intro c hc
 induction hc with
 | intro c hc ih=>
  have key:∀N gs,O8 gs=N→∀w t sl,Inv c gs w t→Ends P Q (crowd gs w sl) t:=by
   intro N
   induction N using Nat.strongRecOn with
   | _ N ihN=>
    intro gs hN w t sl I
    obtain⟨h1,h2⟩:=pick c gs w t I
    obtain⟨i,g,d,sl',h3,h4,h5⟩:=Conc.crowd_pick (P:=P) (w:=w) (sl:=sl) h1 h2
    cases move c (.intro c hc) gs (w.at d) t sl' i g (hat _ _ _ _ d I) h3 h4 with
    | on h he=>exact Ends.step (h5.trans h) he
    | over h he=>exact Ends.stop (h5.trans h) (he sl w.drawn)
    | less h hI hR=>exact Ends.step (h5.trans h) (ih _ hR _ _ _ _ hI)
    | wait h hI hn=>exact Ends.step (h5.trans h) (ihN _ (hN▸hn) _ rfl _ _ _ hI)
  exact fun gs w t sl I=>key _ gs rfl w t sl I
end
/-! ### Lists, one of whose members goes down -/
inductive zu{α:Type}(R:α→α→Prop):List α→List α→Prop
 | here {x x':α} {l:List α} (h:R x' x):zu R (x'::l) (x::l)
 | there {y:α} {l l':List α} (h:zu R l' l):zu R (y::l') (y::l)
theorem D5{α:Type}{R:α→α→Prop}:∀{l:List α},(∀p∈l,Acc R p)→Acc (zu R) l
 | [],_=>⟨_,fun y hy=>by cases hy⟩
 | x::l,h=>by
  have hx:=h _ (List.mem_cons_self ..)
  have hl:=D5 (l:=l) fun p hp=>h p (List.mem_cons_of_mem _ hp)
  clear h
  induction hx generalizing l with
  | intro x _ ihx=>
   induction hl with
   | intro l hl ihl=>
    refine⟨_,fun y hy=>?_⟩
    cases hy with
    | here h=>exact ihx _ h _ (Acc.intro _ hl)
    | there h=>exact ihl _ h
theorem zu.at{α:Type}{R:α→α→Prop}{x x':α}(h:R x' x):∀{l:List α} {i:Nat},l[i]? =some x→zu R (l.set i x') l
 | [],i,e=>by simp at e
 | y::l,0,e=>by
  simp only[List.getElem?_cons_zero,Option.some.injEq]at e
  subst e
  exact .here h
 | y::l,i+1,e=>.there (zu.at h (by simpa using e))

/-! ### A worker goes on -/
section
variable{P:Program}{γ:GP}
inductive Fb:(Σ j,WM P γ j)→(Σ j,WM P γ j)→Prop
 | step {j:Nat} {g g':Goroutine} {k:Hp} {M:Nat→Prop} {w w':World} {es:Array Event} {hs:g.status= .running} {ok:∀w,yF k w→Dom k M→∃g' w' es,stepG P false g w= .go g' w' es∧dX k M w w' es}
   {h:∀w g' w' es,yF k w→Dom k M→stepG P false g w= .go g' w' es→yU P γ j g' (snap k w w') (grown M w w')} {a:yF k w} {d:Dom k M} {e:stepG P false g w= .go g' w' es}:Fb ⟨j,.run (h w g' w' es a d e)⟩ ⟨j,.run (.step hs ok h)⟩
 | lock {j:Nat} {g:Goroutine} {k:Hp} {M:Nat→Prop} {hm:γ.mu≠none} {hk:k γ.Mu=some (gK .out)} {hM:M γ.Mu} {E:LS→Goroutine→Prop} {T:∀B,dB P false (aJ γ.toGrp) E (.mu .out none B 0 0) g} {hE:∀s g',E s g'→∃o B,s= .mu .hold o B 0 1}
   {h:∀s g' l c,E s g'→γ.J l c→k γ.C=none→¬M γ.C→yU P γ j g' (hset (hset k γ.Mu (gK (.hold l))) γ.C c) (fun b=>M b∨b=γ.C)} {B:Nat}:Fb ⟨j,.vF E k M hm hk hM hE h none (T B)⟩ ⟨j,.run (.lock hm hk hM E T hE h)⟩
 | unlock {j:Nat} {g:Goroutine} {k:Hp} {M:Nat→Prop} {l:List Nat} {c:Obj} {t:Nat} {hm:γ.mu≠none} {hk:k γ.Mu=some (gK (.hold l))} {hM:M γ.Mu} {hC:k γ.C=some c} {Ho:M γ.C} {ht:γ.tag j=some t} {hJ:γ.J (t::l) c} {E:LS→Goroutine→Prop}
   {T:∀B,dB P false (aJ γ.toGrp) E (.mu .hold none B 0 1) g} {hE:∀s g',E s g'→∃o B,s= .mu .fin o B 0 2} {h:∀s g',E s g'→yU P γ j g' (hdel (hset k γ.Mu (gK .fin)) γ.C) (fun b=>M b∧b≠γ.C)} {B:Nat} {hk':hdel (hset k γ.Mu (gK .fin)) γ.C γ.Mu=some (gK .fin)} {hM':M γ.Mu∧γ.Mu≠γ.C}:
   Fb ⟨j,.xY E _ _ hm hk' hM' t ht hE h (some (t::l,c)) (T B)⟩ ⟨j,.run (.unlock hm hk hM hC Ho ht hJ E T hE h)⟩
 | done {j:Nat} {g:Goroutine} {k:Hp} {M:Nat→Prop} {hk:γ.tag j=none∨(γ.mu≠none∧k γ.Mu=some (gK .fin))} {A:ah} {hA:∀b o,(b,o)∈A→k b=some o∧M b∧o.isChan=false} {hn:(A.map (·.1)).Nodup} {hR:γ.R j A} {T:dB P false (aJ γ.toGrp) (Gone P) (.dn .live 0) g}:Fb ⟨j,.fin (some (k,M,A)) T⟩ ⟨j,.run (.done hk A hA hn hR T)⟩
 | Nr {j:Nat} {E:LS→Goroutine→Prop} {k:Hp} {M:Nat→Prop} {hm:γ.mu≠none} {hk:k γ.Mu=some (gK .out)} {hM:M γ.Mu} {hE:∀s g',E s g'→∃o B,s= .mu .hold o B 0 1}
   {h:∀s g' l c,E s g'→γ.J l c→k γ.C=none→¬M γ.C→yU P γ j g' (hset (hset k γ.Mu (gK (.hold l))) γ.C c) (fun b=>M b∨b=γ.C)} {tk:Option (List Nat×Obj)} {s:LS} {g g':Goroutine} {hs:g.status= .running} {e:∀w,stepG P false g w= .go g' w #[]} {T:dB P false (aJ γ.toGrp) E s g'}:
   Fb ⟨j,.vF E k M hm hk hM hE h tk T⟩ ⟨j,.vF E k M hm hk hM hE h tk (.idle hs e T)⟩
 | Rn {j:Nat} {E:LS→Goroutine→Prop} {k:Hp} {M:Nat→Prop} {hm:γ.mu≠none} {hk:k γ.Mu=some (gK .out)} {hM:M γ.Mu} {hE:∀s g',E s g'→∃o B,s= .mu .hold o B 0 1}
   {h:∀s g' l c,E s g'→γ.J l c→k γ.C=none→¬M γ.C→yU P γ j g' (hset (hset k γ.Mu (gK (.hold l))) γ.C c) (fun b=>M b∨b=γ.C)} {tk tk':Option (List Nat×Obj)} {s:LS} {g:Goroutine} {a:LA} {hs hc ho wait ok wk fr} {hh:∀w x g' w' es s',uF γ.toGrp w x→rG a s x→¬jk a x→stepG P false g w= .go g' w' es→oP a s x s'→dB P false (aJ γ.toGrp) E s' g'}
   {w:World} {x:XS} {g':Goroutine} {w':World} {es:Array Event} {s':LS} {h1 h2 h3 h4 h5}:Fb ⟨j,.vF E k M hm hk hM hE h tk' (hh w x g' w' es s' h1 h2 h3 h4 h5)⟩ ⟨j,.vF E k M hm hk hM hE h tk (.act (π:=aJ γ.toGrp) a hs hc ho wait ok wk fr hh)⟩
 | TG {j:Nat} {E:LS→Goroutine→Prop} {k:Hp} {M:Nat→Prop} {hm:γ.mu≠none} {hk:k γ.Mu=some (gK .out)} {hM:M γ.Mu} {hE:∀s g',E s g'→∃o B,s= .mu .hold o B 0 1}
   {h:∀s g' l c,E s g'→γ.J l c→k γ.C=none→¬M γ.C→yU P γ j g' (hset (hset k γ.Mu (gK (.hold l))) γ.C c) (fun b=>M b∨b=γ.C)} {tk:Option (List Nat×Obj)} {s:LS} {g:Goroutine} {hs':g.status= .running} {he:E s g} {l:List Nat} {c:Obj} {h1 h2 h3}:Fb ⟨j,.run (h s g l c he h1 h2 h3)⟩ ⟨j,.vF E k M hm hk hM hE h tk (.exit hs' he)⟩
 | Ns {j:Nat} {E:LS→Goroutine→Prop} {k:Hp} {M:Nat→Prop} {hm:γ.mu≠none} {hk:k γ.Mu=some (gK .fin)} {hM:M γ.Mu} {t:Nat} {ht:γ.tag j=some t} {hE:∀s g',E s g'→∃o B,s= .mu .fin o B 0 2} {h:∀s g',E s g'→yU P γ j g' k M} {tk:Option (List Nat×Obj)} {s:LS} {g g':Goroutine}
   {hs:g.status= .running} {e:∀w,stepG P false g w= .go g' w #[]} {T:dB P false (aJ γ.toGrp) E s g'}:Fb ⟨j,.xY E k M hm hk hM t ht hE h tk T⟩ ⟨j,.xY E k M hm hk hM t ht hE h tk (.idle hs e T)⟩
 | Ro {j:Nat} {E:LS→Goroutine→Prop} {k:Hp} {M:Nat→Prop} {hm:γ.mu≠none} {hk:k γ.Mu=some (gK .fin)} {hM:M γ.Mu} {t:Nat} {ht:γ.tag j=some t} {hE:∀s g',E s g'→∃o B,s= .mu .fin o B 0 2} {h:∀s g',E s g'→yU P γ j g' k M} {tk tk':Option (List Nat×Obj)} {s:LS} {g:Goroutine}
   {a:LA} {hs hc ho wait ok wk fr} {hh:∀w x g' w' es s',uF γ.toGrp w x→rG a s x→¬jk a x→stepG P false g w= .go g' w' es→oP a s x s'→dB P false (aJ γ.toGrp) E s' g'} {w:World} {x:XS} {g':Goroutine} {w':World} {es:Array Event} {s':LS} {h1 h2 h3 h4 h5}:
   Fb ⟨j,.xY E k M hm hk hM t ht hE h tk' (hh w x g' w' es s' h1 h2 h3 h4 h5)⟩ ⟨j,.xY E k M hm hk hM t ht hE h tk (.act (π:=aJ γ.toGrp) a hs hc ho wait ok wk fr hh)⟩
 | TJ {j:Nat} {E:LS→Goroutine→Prop} {k:Hp} {M:Nat→Prop} {hm:γ.mu≠none} {hk:k γ.Mu=some (gK .fin)} {hM:M γ.Mu} {t:Nat} {ht:γ.tag j=some t} {hE:∀s g',E s g'→∃o B,s= .mu .fin o B 0 2} {h:∀s g',E s g'→yU P γ j g' k M} {tk:Option (List Nat×Obj)} {s:LS} {g:Goroutine} {hs':g.status= .running} {he:E s g}:
   Fb ⟨j,.run (h s g he)⟩ ⟨j,.xY E k M hm hk hM t ht hE h tk (.exit hs' he)⟩
 | Nu {j:Nat} {pre:Option (Hp×(Nat→Prop)×ah)} {s:LS} {g g':Goroutine} {hs:g.status= .running} {e:∀w,stepG P false g w= .go g' w #[]} {T:dB P false (aJ γ.toGrp) (Gone P) s g'}:Fb ⟨j,.fin pre T⟩ ⟨j,.fin pre (.idle hs e T)⟩
 | Rq {j:Nat} {pre pre':Option (Hp×(Nat→Prop)×ah)} {s:LS} {g:Goroutine} {a:LA} {hs hc ho wait ok wk fr} {hh:∀w x g' w' es s',uF γ.toGrp w x→rG a s x→¬jk a x→stepG P false g w= .go g' w' es→oP a s x s'→dB P false (aJ γ.toGrp) (Gone P) s' g'} {w:World} {x:XS} {g':Goroutine} {w':World} {es:Array Event} {s':LS} {h1 h2 h3 h4 h5}:
   Fb ⟨j,.fin pre' (hh w x g' w' es s' h1 h2 h3 h4 h5)⟩ ⟨j,.fin pre (.act (π:=aJ γ.toGrp) a hs hc ho wait ok wk fr hh)⟩
 | TM {j:Nat} {pre:Option (Hp×(Nat→Prop)×ah)} {s:LS} {g:Goroutine} {hs':g.status= .running} {he:Gone P s g} {n:Nat} {hn:Conc.QuitsIn P n g}:Fb ⟨j,.I4 n hn⟩ ⟨j,.fin pre (.exit hs' he)⟩
 | left {j n:Nat} {g g':Goroutine} {h:Conc.QuitsIn P (n+1) g} {h':Conc.QuitsIn P n g'}:Fb ⟨j,.I4 n h'⟩ ⟨j,.I4 (n+1) h⟩
end
end Go.aS

/- Workers' trees are well founded. Conditions: none; over any program. -/
namespace Go.aS
section
variable{P:Program}{γ:GP}
theorem Nv{j:Nat}:∀(n:Nat) (g:Goroutine) (h:Conc.QuitsIn P n g),Acc (Fb (P:=P) (γ:=γ)) ⟨j,.I4 n h⟩
 | 0,g,h=>⟨_,fun y hy=>by cases hy⟩
 | n+1,g,h=>⟨_,fun y hy=>by cases hy;exact Nv n _ _⟩
theorem TN{j:Nat}{s:(aJ γ.toGrp).S}{g:Goroutine}(T:dB P false (aJ γ.toGrp) (Gone P) s g):∀pre,Acc (Fb (P:=P) (γ:=γ)) ⟨j,.fin pre T⟩:=by
 induction T with
 | exit hs he=>exact fun pre=>⟨_,fun y hy=>by cases hy;exact Nv _ _ _⟩
 | idle hs e T ih=>exact fun pre=>⟨_,fun y hy=>by cases hy;exact ih _⟩
 | act a hs hc ho wait ok wk fr hh ih=>exact fun pre=>⟨_,fun y hy=>by cases hy;exact ih _ _ _ _ _ _ _ _ _ _ _ _⟩
theorem TP{j:Nat}{E:LS→Goroutine→Prop}{k:Hp}{M:Nat→Prop}{hm:γ.mu≠none}{hk:k γ.Mu=some (gK .fin)}{hM:M γ.Mu}{t:Nat}{ht:γ.tag j=some t}{hE:∀s g',E s g'→∃o B,s= .mu .fin o B 0 2}{h:∀s g',E s g'→yU P γ j g' k M}
  (ha:∀s g' he,Acc (Fb (P:=P) (γ:=γ)) ⟨j,.run (h s g' he)⟩) {s:(aJ γ.toGrp).S} {g:Goroutine} (T:dB P false (aJ γ.toGrp) E s g):∀tk,Acc (Fb (P:=P) (γ:=γ)) ⟨j,.xY E k M hm hk hM t ht hE h tk T⟩:=by
 induction T with
 | exit hs he=>exact fun tk=>⟨_,fun y hy=>by cases hy;exact ha _ _ _⟩
 | idle hs e T ih=>exact fun tk=>⟨_,fun y hy=>by cases hy;exact ih _⟩
 | act a hs hc ho wait ok wk fr hh ih=>exact fun tk=>⟨_,fun y hy=>by cases hy;exact ih _ _ _ _ _ _ _ _ _ _ _ _⟩
theorem TQ{j:Nat}{E:LS→Goroutine→Prop}{k:Hp}{M:Nat→Prop}{hm:γ.mu≠none}{hk:k γ.Mu=some (gK .out)}{hM:M γ.Mu}{hE:∀s g',E s g'→∃o B,s= .mu .hold o B 0 1}
  {h:∀s g' l c,E s g'→γ.J l c→k γ.C=none→¬M γ.C→yU P γ j g' (hset (hset k γ.Mu (gK (.hold l))) γ.C c) (fun b=>M b∨b=γ.C)}
  (ha:∀s g' l c h1 h2 h3 h4,Acc (Fb (P:=P) (γ:=γ)) ⟨j,.run (h s g' l c h1 h2 h3 h4)⟩) {s:(aJ γ.toGrp).S} {g:Goroutine} (T:dB P false (aJ γ.toGrp) E s g):∀tk,Acc (Fb (P:=P) (γ:=γ)) ⟨j,.vF E k M hm hk hM hE h tk T⟩:=by
 induction T with
 | exit hs he=>exact fun tk=>⟨_,fun y hy=>by cases hy;exact ha _ _ _ _ _ _ _ _⟩
 | idle hs e T ih=>exact fun tk=>⟨_,fun y hy=>by cases hy;exact ih _⟩
 | act a hs hc ho wait ok wk fr hh ih=>exact fun tk=>⟨_,fun y hy=>by cases hy;exact ih _ _ _ _ _ _ _ _ _ _ _ _⟩
theorem Nw{j:Nat}{g:Goroutine}{k:Hp}{M:Nat→Prop}(T:yU P γ j g k M):Acc (Fb (P:=P) (γ:=γ)) ⟨j,.run T⟩:=by
 induction T with
 | step hs ok h ih=>exact⟨_,fun y hy=>by cases hy;exact ih _ _ _ _ _ _ _⟩
 | lock hm hk hM E T hE h ih=>exact⟨_,fun y hy=>by cases hy;exact TQ (fun s g' l c h1 h2 h3 h4=>ih s g' l c h1 h2 h3 h4) _ _⟩
 | unlock hm hk hM hC Ho ht hJ E T hE h ih=>exact⟨_,fun y hy=>by cases hy;exact TP (fun s g' he=>ih s g' he) _ _⟩
 | done hk A hA hn hR T=>exact⟨_,fun y hy=>by cases hy;exact TN _ _⟩
theorem WZ(p:Σ j,WM P γ j):Acc (Fb (P:=P) (γ:=γ)) p:=by
 obtain⟨j,m⟩:=p
 cases m with
 | run T=>exact Nw T
 | vF E k M hm hk hM hE h tk T=>exact TQ (fun s g' l c h1 h2 h3 h4=>Nw _) T tk
 | xY E k M hm hk hM t ht hE h tk T=>exact TP (fun s g' he=>Nw _) T tk
 | fin pre T=>exact TN T pre
 | I4 n h=>exact Nv n _ h
end
end Go.aS

/- The machine: what holds of it inside a group. Conditions: none; over any program. -/
namespace Go.aS
open Go.Conc (crowd parked rcase scase QuitsIn QuitsD Before Knows knows_own touchAt touchAt_of touchAt_old getElem?_append_old getElem?_append_cases lt_size_of_getElem? touch_of hb_po hb_app ofEvents_eq woken Deaf deaf_old g?_old act?_old heard_old lt_of_act? Deaf_own Deaf_other)
open Go.ConcM (OsLater)
open Go.ConcN (RelBy)
class Base where
 ref:World
structure Kept(w w':World):Prop where
 os:OsLater w.os w'.os
 output:w'.output=w.output
 tape:w'.tape=w.tape
 size:w.heap.size≤w'.heap.size
 block:∀b,b<w.heap.size→w'.heap[b]? =w.heap[b]?
theorem Kept.refl(w:World):Kept w w:=⟨.refl _,rfl,rfl,Nat.le_refl _,fun _ _=>rfl⟩
theorem Kept.guar{r w w':World}{k:Hp}{M:Nat→Prop}{es:Array Event}(h:Kept r w)(g:dX k M w w' es)(hl:∀b,M b→r.heap.size≤b):Kept r w':=
 ⟨by rw[g.os];exact h.os,g.output.trans h.output,g.tape.trans h.tape,Nat.le_trans h.size g.size,fun b hb=>(g.keep b (Nat.lt_of_lt_of_le hb h.size) fun hm=>by have:=hl b hm;omega).trans (h.block b hb)⟩
theorem Kept.off{r w w':World}(h:Kept r w)(h1:OsLater w.os w'.os)(h2:w'.output=w.output)(h3:w'.tape=w.tape)(hsz:w'.heap.size=w.heap.size)(ho:∀b,b<r.heap.size→w'.heap[b]? =w.heap[b]?):Kept r w':=
 ⟨h.os.trans h1,h2.trans h.output,h3.trans h.tape,by rw[hsz];exact h.size,fun b hb=>(ho b hb).trans (h.block b hb)⟩
theorem Kept.at{r w:World}(h:Kept r w)(d:Nat):Kept r (w.at d):=⟨h.os,h.output,h.tape,h.size,h.block⟩

section
variable{P:Program}{γ:GP}{j:Nat}
noncomputable def WM.wa:WM P γ j→WA
 | .run (k:=k) _=>⟨vG γ k,.live,false,none,0⟩
 | .vF (s:=s) .. =>match s with | .mu r o B _ _=>⟨r,.live,true,o,B⟩ | _=>⟨.fin,.live,false,none,0⟩
 | .xY (s:=s) .. =>match s with | .mu r o B _ _=>⟨r,.live,true,o,B⟩ | _=>⟨.fin,.live,false,none,0⟩
 | .fin (s:=s) _ _=>match s with | .dn r _=>⟨.fin,r,false,none,0⟩ | _=>⟨.fin,.live,false,none,0⟩
 | .I4 .. =>⟨.fin,.gone,false,none,0⟩

def WM.ok:WM P γ j→Prop
 | .run (k:=k) (M:=M) _=>(γ.tag j≠none→γ.mu≠none)∧(γ.mu≠none→(γ.tag j=none→k γ.Mu=none)∧(γ.tag j≠none→M γ.Mu∧∃r,k γ.Mu=some (gK r))∧∀l,k γ.Mu=some (gK (.hold l))→∃c,k γ.C=some c∧M γ.C∧c.isChan=false)
 | .vF (s:=s) _ _ _ _ _ _ _ _ tk _=>γ.tag j≠none∧∃r o B d b,s= .mu r o B d b∧(b=1↔tk≠none)∧(b=1→r= .hold)
 | .xY (s:=s) _ _ _ _ _ _ _ _ _ _ tk _=>∃r o B d b,s= .mu r o B d b∧(b=1↔tk≠none)∧(b=1→r= .hold)∧b≠0
 | .fin (s:=s) pre _=>(γ.tag j≠none→γ.mu≠none)∧∃r d,s= .dn r d∧(r≠ .live→pre=none)∧(r= .live→∃k M A,pre=some (k,M,A)∧(∀b o,(b,o)∈A→k b=some o∧M b∧o.isChan=false)∧(A.map (·.1)).Nodup∧γ.R j A)
 | .I4 .. =>(γ.tag j≠none→γ.mu≠none)

def WM.runs:WM P γ j→Prop
 | .run (k:=k) _=>∃l,k γ.Mu=some (gK (.hold l))
 | _=>False
def WM.has:WM P γ j→Prop
 | .run (k:=k) _=>∃l,k γ.Mu=some (gK (.hold l))
 | .vF _ _ _ _ _ _ _ _ tk _=>tk≠none
 | .xY _ _ _ _ _ _ _ _ _ _ tk _=>tk≠none
 | _=>False
def WM.been:WM P γ j→Prop
 | .run (k:=k) _=>k γ.Mu=some (gK .fin)
 | .vF .. =>False
 | .xY _ _ _ _ _ _ _ _ _ _ tk _=>tk=none
 | .fin _ _=>True
 | .I4 .. =>True
def WM.Zr(m:WM P γ j)(x:XS)(g:Goroutine):Prop:=m.wa.r= .AP∧x.m.ms=0∧m.g.status= .running∧m.g.offers=none∧g={m.g with status:=.blocked}
end
def OE(γ:GP):Nat→Prop:=fun b=>b=γ.Wg∨(γ.mu≠none∧b=γ.Mu)
def mX{P:Program}(γ:GP)(ws:List (Σ j,WM P γ j))(esc:List ah):Nat→Prop:=fun b=>(γ.mu≠none∧b=γ.C∧∀m∈ws,¬m.2.runs)∨∃o,(b,o)∈esc.flatten
def AU{P:Program}{γ:GP}(k₀:Hp)(aO:Nat→Prop)(nq:Nat)(ws:List (Σ j,WM P γ j)):Rk:=fun x=>if x=0 then some (k₀,aO)else if x≤nq then none else(ws[x-1-nq]?).bind (·.2.act)
def uY{P:Program}{γ:GP}(d₀:Nat)(qs:List (Nat×Nat))(ws:List (Σ j,WM P γ j)):Nat→Nat:=fun x=>if x=0 then d₀ else if x≤qs.length then((qs[x-1]?).map (·.2)).getD 0 else((ws[x-1-qs.length]?).map (·.2.deaf)).getD 0
def mem(nq nw g:Nat):Prop:=g=0∨(nq<g∧g≤nq+nw)

noncomputable def fU{P:Program}{γ:GP}(ws:List (Σ j,WM P γ j)):List Nat:=by classical exact ws.filterMap fun m=>if m.2.been then γ.tag m.1 else none

def O9(t:Trace)(nq nw Mu C:Nat):Prop:=∀i a,touchAt t i=some a→In a.loc C→(∀g,mem nq nw g→Knows t g i)∨∃p g,nq<g∧g≤nq+nw∧t.g? p=some g∧t.act? p=some (.mark (.releaseMerge (cell0 Mu)))∧t.heard p∧Before t i p

inductive TL where
 | free (l:List Nat) (c:Obj)
 | at(i:Nat)

def WM.holds{P:Program}{γ:GP}{j:Nat}(m:WM P γ j)(w:World)(t:Trace)(g:Nat)(bl:List Nat):Prop:=
 match m with
 | .run (k:=k) _=>∀l,k γ.Mu=some (gK (.hold l))→l.Perm bl
 | .vF _ _ _ _ _ _ _ _ tk _=>∀l c,tk=some (l,c)→w.heap[γ.C]? =some c∧γ.J l c∧l.Perm bl∧Own t g γ.C
 | .xY _ _ _ _ _ _ s _ _ _ tk _=>∀l c,tk=some (l,c)→w.heap[γ.C]? =some c∧γ.J l c∧l.Perm (s::bl)∧Own t g γ.C
 | _=>True

structure zx{P:Program}(γ:GP)(w:World)(t:Trace)(nq:Nat)(ws:List (Σ j,WM P γ j))(tl:TL):Prop where
 free:∀l c,tl= .free l c→(∀(i:Nat) (m:Σ j,WM P γ j),ws[i]? =some m→¬m.2.has)∧w.heap[γ.C]? =some c∧γ.J l c∧l.Perm (fU ws)∧O9 t nq ws.length γ.Mu γ.C
 held:∀i,tl= .at i→(∃m,ws[i]? =some m∧m.2.has∧m.2.holds w t (nq+1+i) (fU ws))∧∀(i':Nat) (m':Σ j,WM P γ j),ws[i']? =some m'→m'.2.has→i'=i

structure CQ{P:Program}(γ:GP)(w:World)(t:Trace)(nq:Nat)(ws:List (Σ j,WM P γ j))(esc:List ah):Prop where
 len:esc.length=ws.length
 nodup:(esc.flatten.map (·.1)).Nodup
 live:∀(i:Nat) (m:Σ j,WM P γ j) (A:ah),ws[i]? =some m→esc[i]? =some A→m.2.wa.wr= .live→A=[]
 done:∀(i:Nat) (m:Σ j,WM P γ j) (A:ah),ws[i]? =some m→esc[i]? =some A→m.2.wa.wr≠ .live→γ.R i A∧(∀b o,(b,o)∈A→w.heap[b]? =some o∧o.isChan=false∧b≠γ.Wg∧(γ.mu≠none→b≠γ.Mu)∧(γ.mu≠none→b≠γ.C))∧
  ∃p,RelBy (cell0 γ.Wg) t (nq+1+i) p∧(∀p',t.g? p'=some (nq+1+i)→t.act? p'=some (.mark (.releaseMerge (cell0 γ.Mu)))→p'≤p)∧∀b o,(b,o)∈A→∀n a,touchAt t n=some a→In a.loc b→Before t n p

structure dZ[Base](P:Program)(γ:GP)(gs:Array Goroutine)(w:World)(t:Trace)(k₀:Hp)(aO:Nat→Prop)(d₀:Nat)(qs:List (Nat×Nat))(left:Nat)(p:MP)(x:XS)(ws:List (Σ j,WM P γ j))(tl:TL)(esc:List ah):Prop where
 size:gs.size=qs.length+ws.length+1
 Y:LY w t (qs.length+ws.length+1) (uY d₀ qs ws) (AU k₀ aO qs.length ws) (OE γ) (mX γ ws esc)
 quit:∀(i:Nat) (q:Nat×Nat),qs[i]? =some q→∃g,gs[i+1]? =some g∧QuitsD P q.1 q.2 g∧∀n,t.counts n→t.g? n=some (i+1)→Knows t 0 n
 wG:∀(i:Nat) (m:Σ j,WM P γ j),ws[i]? =some m→m.1=i∧m.2.ok∧∃g,gs[qs.length+1+i]? =some g∧(g=m.2.g∨m.2.Zr x g)
 N:N1 left p x (ws.map fun m=>m.2.wa)
 at_:uF γ.toGrp w x
 Ri:∀g,mem qs.length ws.length g→∀b,OE γ b→Zn t g b
 wP:γ.mu≠none→zx γ w t qs.length ws tl
 lU:CQ γ w t qs.length ws esc
 base:Kept Base.ref w
 low:∀g k M b,AU k₀ aO qs.length ws g=some (k,M)→M b→Base.ref.heap.size≤b
 rM:∀b,OE γ b∨mX γ ws esc b→Base.ref.heap.size≤b
 geo:γ.Wg≠γ.Mu∨γ.mu=none
 pF:γ.mu≠none→γ.C≠γ.Wg∧γ.C≠γ.Mu
 jc:∀l c,γ.J l c→c.isChan=false
 mm:γ.mu≠none→k₀ γ.Mu=none
end Go.aS

/- The machine, inside a group: small laws. Conditions: none; over any program. -/
namespace Go.aS
open Go.Conc (crowd parked rcase scase QuitsIn QuitsD Before Knows knows_own touchAt touchAt_of touchAt_old getElem?_append_old getElem?_append_cases lt_size_of_getElem? touch_of hb_po hb_app ofEvents_eq woken Deaf deaf_old g?_old act?_old heard_old lt_of_act? Deaf_own Deaf_other)
open Go.ConcM (OsLater)
open Go.ConcN (RelBy)
section
variable{P:Program}{γ:GP}{k₀:Hp}{aO:Nat→Prop}{nq d₀:Nat}{qs:List (Nat×Nat)}{ws:List (Σ j,WM P γ j)}{i:Nat}{m m':Σ j,WM P γ j}
theorem iL(h:ws[i]? =some m):AU k₀ aO nq ws (nq+1+i)=m.2.act:=by
 have h1:¬nq+1+i=0:=by omega
 have h2:¬nq+1+i≤nq:=by omega
 have h3:nq+1+i-1-nq=i:=by omega
 simp only[AU,if_neg h1,if_neg h2,h3,h,Option.bind_some]
theorem jU:AU k₀ aO nq ws 0=some (k₀,aO):=by simp[AU]
theorem qQ{g:Nat}{k:Hp}{M:Nat→Prop}(h:AU k₀ aO nq ws g=some (k,M)):(g=0∧k=k₀∧M=aO)∨∃(i:Nat) (m:Σ j,WM P γ j),g=nq+1+i∧ws[i]? =some m∧m.2.act=some (k,M):=by
 unfold AU at h
 by_cases h1:g=0
 ·rw[if_pos h1]at h;cases h;exact .inl ⟨h1,rfl,rfl⟩
 ·rw[if_neg h1]at h
  by_cases h2:g≤nq
  ·rw[if_pos h2]at h;cases h
  ·rw[if_neg h2]at h
   obtain⟨m,h3,h4⟩:=Option.bind_eq_some_iff.1 h
   exact .inr ⟨g-1-nq,m,by omega,h3,h4⟩
theorem lt_of_some{α:Type}{l:List α}{i:Nat}{p:α}(h:l[i]? =some p):i<l.length:=by
 rcases Nat.lt_or_ge i l.length with h' | h'
 ·exact h'
 ·rw[List.getElem?_eq_none h']at h;cases h
theorem tX(h:ws[i]? =some m):AU k₀ aO nq (ws.set i m')=Bl (AU k₀ aO nq ws) (nq+1+i) m'.2.act:=by
 funext g
 have hl:=lt_of_some h
 by_cases hg:g=nq+1+i
 ·subst hg
  rw[fA]
  exact iL (by rw[List.getElem?_set,if_pos rfl,if_pos hl])
 ·rw[jy hg]
  unfold AU
  by_cases h1:g=0
  ·rw[if_pos h1,if_pos h1]
  ·rw[if_neg h1,if_neg h1]
   by_cases h2:g≤nq
   ·rw[if_pos h2,if_pos h2]
   ·rw[if_neg h2,if_neg h2,List.getElem?_set,if_neg (by omega)]
theorem zy(h:ws[i]? =some m):uY d₀ qs ws (qs.length+1+i)=m.2.deaf:=by
 have h1:¬qs.length+1+i=0:=by omega
 have h2:¬qs.length+1+i≤qs.length:=by omega
 have h3:qs.length+1+i-1-qs.length=i:=by omega
 simp only[uY,if_neg h1,if_neg h2,h3,h,Option.map_some,Option.getD_some]
theorem Il(h:ws[i]? =some m):uY d₀ qs (ws.set i m')=fun g=>if g=qs.length+1+i then m'.2.deaf else uY d₀ qs ws g:=by
 funext g
 have hl:=lt_of_some h
 by_cases hg:g=qs.length+1+i
 ·rw[if_pos hg]
  subst hg
  exact zy (by rw[List.getElem?_set,if_pos rfl,if_pos hl])
 ·rw[if_neg hg]
  unfold uY
  by_cases h1:g=0
  ·rw[if_pos h1,if_pos h1]
  ·rw[if_neg h1,if_neg h1]
   by_cases h2:g≤qs.length
   ·rw[if_pos h2,if_pos h2]
   ·rw[if_neg h2,if_neg h2,List.getElem?_set,if_neg (by omega)]
theorem zA(h:ws[i]? =some m)(hd:m'.2.deaf=m.2.deaf):uY d₀ qs (ws.set i m')=uY d₀ qs ws:=by
 rw[Il h]
 funext g
 by_cases hg:g=qs.length+1+i
 ·rw[if_pos hg,hg,zy h,hd]
 ·rw[if_neg hg]

theorem vH(h:ws[i]? =some m)(h1:m'.1=m.1)(h2:γ.tag m.1≠none→(m'.2.been↔m.2.been)):fU (ws.set i m')=fU ws:=by
 unfold fU
 induction ws generalizing i with
 | nil=>simp at h
 | cons y l ih=>
  cases i with
  | zero=>
   simp only[List.getElem?_cons_zero,Option.some.injEq]at h
   subst h
   simp only[List.set_cons_zero,List.filterMap_cons,h1]
   by_cases ht:γ.tag y.1=none
   ·simp[ht]
   ·by_cases hb:y.2.been
    ·rw[if_pos hb,if_pos ((h2 ht).2 hb)]
    ·rw[if_neg hb,if_neg fun h=>hb ((h2 ht).1 h)]
  | succ i=>
   simp only[List.getElem?_cons_succ]at h
   simp only[List.set_cons_succ,List.filterMap_cons,ih h]
theorem U1{s:Nat}(h:ws[i]? =some m)(h1:m'.1=m.1)(hs:γ.tag m.1=some s)(h2:¬m.2.been)(h3:m'.2.been):(s::fU ws).Perm (fU (ws.set i m')):=by
 unfold fU
 induction ws generalizing i with
 | nil=>simp at h
 | cons y l ih=>
  cases i with
  | zero=>
   simp only[List.getElem?_cons_zero,Option.some.injEq]at h
   subst h
   simp only[List.set_cons_zero,List.filterMap_cons,h1,hs,h2,h3,if_true,if_false]
   exact .refl _
  | succ i=>
   simp only[List.getElem?_cons_succ]at h
   simp only[List.set_cons_succ,List.filterMap_cons]
   split
   ·exact ih h
   ·exact(List.Perm.swap _ _ _).trans ((ih h).cons _)
theorem W9:(ws.set i m').map (fun m=>m.2.wa)=(ws.map fun m=>m.2.wa).set i m'.2.wa:=by rw[List.map_set]

theorem pG{j:Nat}{m:WM P γ j}(h:m.runs):m.has:=by
 cases m <;>simp only[WM.runs]at h <;>first | exact h.elim | exact h
end
section
variable{P:Program}{γ:GP}{w w':World}{t u:Trace}{nq nw g:Nat}{ws ws':List (Σ j,WM P γ j)}{tl:TL}{esc:List ah}
theorem O9.app(h:O9 t nq nw γ.Mu γ.C)(hu:∀op∈u,∀a,op.act.touch? =some a→¬In a.loc γ.C):O9 (t++u) nq nw γ.Mu γ.C:=by
 intro i a ha hl
 rcases fP ha with⟨hi,h1⟩ | ⟨op,ho,hm,h1⟩
 ·rcases h i a h1 hl with h2 | ⟨p,g,h2,h3,h4,h5,h6,h7⟩
  ·exact .inl fun g hg=>(h2 g hg).app u
  ·have hp:=lt_of_act? h5
   exact .inr ⟨p,g,h2,h3,by rw[g?_old hp];exact h4,by rw[act?_old hp];exact h5,(heard_old hp).2 h6,h7.app u⟩
 ·exact absurd hl (hu op hm a h1)

theorem WM.AV{j:Nat}{m:WM P γ j}{bl:List Nat}(h:m.holds w t g bl)(hw:w'.heap[γ.C]? =w.heap[γ.C]?)(hu:∀op∈u,∀a,op.act.touch? =some a→In a.loc γ.C→op.g=g):m.holds w' (t++u) g bl:=by
 cases m with
 | run T=>exact h
 | vF E k M hm hk hM hE hh tk T=>
  intro l c e
  obtain⟨h1,h2,h3,h4⟩:=h l c e
  exact⟨by rw[hw];exact h1,h2,h3,h4.app hu⟩
 | xY E k M hm hk hM s hs hE hh tk T=>
  intro l c e
  obtain⟨h1,h2,h3,h4⟩:=h l c e
  exact⟨by rw[hw];exact h1,h2,h3,h4.app hu⟩
 | fin pre T=>exact trivial
 | I4 n h=>exact trivial

theorem CQ.app(h:CQ γ w t nq ws esc)(hl:ws'.length=ws.length)(hws:∀(i:Nat) (m':Σ j,WM P γ j),ws'[i]? =some m'→∃m,ws[i]? =some m∧(m'.2.wa.wr= .live↔m.2.wa.wr= .live))
  (hw:∀b o,(b,o)∈esc.flatten→w'.heap[b]? =w.heap[b]?) (hu:∀op∈u,∀a,op.act.touch? =some a→∀b o,(b,o)∈esc.flatten→¬In a.loc b)
  (hr:∀(i:Nat) (m:Σ j,WM P γ j),ws[i]? =some m→m.2.wa.wr≠ .live→(∀n,t.size≤n→(t++u).g? n=some (nq+1+i)→¬(t++u).counts n)∧∀op∈u,op.g=nq+1+i→op.act≠ .mark (.releaseMerge (cell0 γ.Mu))):CQ γ w' (t++u) nq ws' esc:=by
 refine⟨h.len.trans hl.symm,h.nodup,fun i m' A h1 h2 h3=>?_,fun i m' A h1 h2 h3=>?_⟩
 ·obtain⟨m,h4,h5⟩:=hws i m' h1
  exact h.live i m A h4 h2 (h5.1 h3)
 ·obtain⟨m,h4,h5⟩:=hws i m' h1
  have h3':m.2.wa.wr≠ .live:=fun e=>h3 (h5.2 e)
  obtain⟨h6,h7,p,h8,h9,h10⟩:=h.done i m A h4 h2 h3'
  have hin:∀b o,(b,o)∈A→(b,o)∈esc.flatten:=fun b o hb=>List.mem_flatten.2 ⟨A,List.mem_of_getElem? h2,hb⟩
  obtain⟨r1,r2⟩:=hr i m h4 h3'
  refine⟨h6,fun b o hb=>?_,p,h8.app r1,fun p' hg ha=>?_,fun b o hb n a ha hl=>?_⟩
  ·obtain⟨e1,e2⟩:=h7 b o hb
   exact⟨by rw[hw b o (hin b o hb)];exact e1,e2⟩
  ·obtain⟨op,ho,hog⟩:=Option.map_eq_some_iff.1 hg
   rcases getElem?_append_cases ho with⟨hlt,ho'⟩ | ⟨_,hou⟩
   ·exact h9 p' (by rw[g?_old hlt]at hg;exact hg) (by rw[act?_old hlt]at ha;exact ha)
   ·have:op.act= .mark (.releaseMerge (cell0 γ.Mu)):=by simpa[Trace.act?,ho]using ha
    exact absurd this (r2 op hou hog)
  ·rcases fP ha with⟨_,h1⟩ | ⟨op,_,hm,h1⟩
   ·exact(h10 b o hb n a h1 hl).app u
   ·exact absurd hl (hu op hm a h1 b o (hin b o hb))

theorem zx.app(h:zx γ w t nq ws tl)(hlen:ws'.length=ws.length)(hb:fU ws'=fU ws)(hh:∀(i:Nat) (m':Σ j,WM P γ j),ws'[i]? =some m'→∃m,ws[i]? =some m∧(m'.2.has↔m.2.has))
  (hm:∀(i:Nat) (m:Σ j,WM P γ j),tl= .at i→ws[i]? =some m→m.2.has→m.2.holds w t (nq+1+i) (fU ws)→∃m',ws'[i]? =some m'∧m'.2.has∧m'.2.holds w' (t++u) (nq+1+i) (fU ws))
  (hw:(∀l c,tl≠ .free l c)∨w'.heap[γ.C]? =w.heap[γ.C]?) (hu:(∀l c,tl≠ .free l c)∨∀op∈u,∀a,op.act.touch? =some a→¬In a.loc γ.C):zx γ w' (t++u) nq ws' tl:=by
 refine⟨fun l c e=>?_,fun i e=>?_⟩
 ·obtain⟨h1,h2,h3,h4,h5⟩:=h.free l c e
  refine⟨fun i m' hi hs=>?_,?_,h3,by rw[hb];exact h4,?_⟩
  ·obtain⟨m,h6,h7⟩:=hh i m' hi
   exact h1 i m h6 (h7.1 hs)
  ·rcases hw with hw | hw
   ·exact absurd e (hw l c)
   ·rw[hw];exact h2
  ·rw[hlen]
   rcases hu with hu | hu
   ·exact absurd e (hu l c)
   ·exact h5.app hu
 ·obtain⟨⟨m,h1,h2,h3⟩,h4⟩:=h.held i e
  refine⟨?_,fun i' m' hi' hs=>?_⟩
  ·rw[hb];exact hm i m e h1 h2 h3
  ·obtain⟨m₁,h5,h6⟩:=hh i' m' hi'
   exact h4 i' m₁ h5 (h6.1 hs)
end
end Go.aS

/- The machine, inside a group: a worker's move, put together. Conditions: none; over any program. -/
namespace Go.aS
open Go.Conc (crowd parked rcase scase QuitsIn QuitsD Before Knows knows_own touchAt touchAt_of touchAt_old getElem?_append_old getElem?_append_cases lt_size_of_getElem? touch_of hb_po hb_app ofEvents_eq woken Deaf deaf_old g?_old act?_old heard_old lt_of_act? Deaf_own Deaf_other counts_old)
open Go.ConcM (OsLater)
open Go.ConcN (RelBy)
def wakes(P:Program)(ga ga':Goroutine):Bool:=mayWake P ga&&ga'.status != .blocked&&ga'.status != .waiting

theorem qR(P:Program)(ga ga':Goroutine)(w':World)(o:Goroutine):woken P ga ga' w' o=if wakes P ga ga'=true then o.again w' else o:=rfl
theorem pI{P:Program}{ga ga' o:Goroutine}{w':World}(h:o.status= .running∨o.status= .finished):woken P ga ga' w' o=o:=by
 rw[qR];split
 ·exact Conc.again_running _ h
 ·rfl
theorem zB{g:Goroutine}(hs:g.status= .running)(ho:g.offers=none)(w:World):({g with status:=.blocked}:Goroutine).again w=g:=by
 obtain⟨a,b,c,d,e⟩:=g
 have hs':c= .running:=hs
 have ho':e=none:=ho
 subst hs' ho'
 simp[Goroutine.again]

theorem qU{t u:Trace}{g k:Nat}(h:∀n,t.counts n→t.g? n=some k→Knows t g n)(hu:∀n,t.size≤n→(t++u).g? n=some k→¬(t++u).counts n):∀n,(t++u).counts n→(t++u).g? n=some k→Knows (t++u) g n:=by
 intro n hc hg
 rcases Nat.lt_or_ge n t.size with hn | hn
 ·exact(h n ((counts_old hn).1 hc) (by rw[g?_old hn]at hg;exact hg)).app u
 ·exact absurd hc (hu n hn hg)
theorem gQ{t u:Trace}{k:Nat}(hu:∀op∈u,op.g≠k):∀n,t.size≤n→(t++u).g? n=some k→¬(t++u).counts n:=by
 intro n hn hg
 obtain⟨op,ho,hog⟩:=Option.map_eq_some_iff.1 hg
 rcases getElem?_append_cases ho with⟨h1,_⟩ | ⟨_,h1⟩
 ·omega
 ·exact absurd hog (hu op h1)

theorem jF{P:Program}{gs:Array Goroutine}{w':World}{n j:Nat}{g g':Goroutine}(hlt:n<gs.size):((gs.map (woken P g g' w')).setIfInBounds n g')[j]? =if j=n then some g' else(gs[j]?).map (woken P g g' w'):=by
 by_cases hj:j=n
 ·subst hj;simp[hlt]
 ·rw[if_neg hj,Array.getElem?_setIfInBounds_ne (fun e=>hj e.symm),Array.getElem?_map]

section
variable{P:Program}{γ:GP}{gs:Array Goroutine}{w w':World}{t u:Trace}{k₀:Hp}{aO:Nat→Prop}{d₀:Nat}{qs:List (Nat×Nat)}{left:Nat}{p p':MP}{x x':XS}{ws:List (Σ j,WM P γ j)}{tl tl':TL}{esc pJ:List ah}
theorem dZ.abk[Base](I:dZ P γ gs w t k₀ aO d₀ qs left p x ws tl esc){ga ga':Goroutine}{n:Nat}(hlt:n<gs.size)(hms:x.m.ms=0→x'.m.ms=0∨wakes P ga ga'=true){i:Nat}{m:Σ j,WM P γ j}(hi:ws[i]? =some m)(hne:qs.length+1+i≠n):
  ∃g,((gs.map (woken P ga ga' w')).setIfInBounds n ga')[qs.length+1+i]? =some g∧(g=m.2.g∨m.2.Zr x' g):=by
 obtain⟨_,_,g,h1,h2⟩:=I.wG i m hi
 refine⟨woken P ga ga' w' g,by rw[jF hlt,if_neg hne,h1];rfl,?_⟩
 rcases h2 with rfl | ⟨b1,b2,b3,b4,rfl⟩
 ·exact .inl (pI m.2.status)
 ·by_cases hw:wakes P ga ga'=true
  ·left
   rw[qR,if_pos hw,zB b3 b4]
  ·right
   have:woken P ga ga' w' ({m.2.g with status:=.blocked}:Goroutine)={m.2.g with status:=.blocked}:=by rw[qR,if_neg hw]
   rw[this]
   exact⟨b1,(hms b2).resolve_right hw,b3,b4,rfl⟩
theorem dZ.quit'[Base](I:dZ P γ gs w t k₀ aO d₀ qs left p x ws tl esc){ga ga':Goroutine}{n:Nat}(hlt:n<gs.size){i:Nat}{q:Nat×Nat}(hi:qs[i]? =some q)(hne:i+1≠n)(hu:∀op∈u,op.g≠i+1):
  ∃g,((gs.map (woken P ga ga' w')).setIfInBounds n ga')[i+1]? =some g∧QuitsD P q.1 q.2 g∧∀n,(t++u).counts n→(t++u).g? n=some (i+1)→Knows (t++u) 0 n:=by
 obtain⟨g,h1,h2,h3⟩:=I.quit i q hi
 exact⟨g,by rw[jF hlt,if_neg hne,h1,Option.map_some,pI h2.status],h2,qU h3 (gQ hu)⟩

theorem dZ.turn[Base](I:dZ P γ gs w t k₀ aO d₀ qs left p x ws tl esc){i:Nat}{m m':Σ j,WM P γ j}(hi:ws[i]? =some m)(h1:m'.1=i)(hok:m'.2.ok){ga ga':Goroutine}(hg':ga'=m'.2.g∨m'.2.Zr x' ga')
  (hY:LY w' (t++u) (qs.length+ws.length+1) (uY d₀ qs (ws.set i m')) (AU k₀ aO qs.length (ws.set i m')) (OE γ) (mX γ (ws.set i m') pJ))
  (hN:N1 left p' x' ((ws.map fun m=>m.2.wa).set i m'.2.wa)) (hat:uF γ.toGrp w' x') (hu:∀op∈u,op.g=qs.length+1+i) (hpl:∀op∈u,∀a,op.act.touch? =some a→a.kind= .plain→∀b,OE γ b→¬In a.loc b)
  (ht:γ.mu≠none→zx γ w' (t++u) qs.length (ws.set i m') tl') (he:CQ γ w' (t++u) qs.length (ws.set i m') pJ) (hk:Kept Base.ref w')
  (hlow:∀k M b,m'.2.act=some (k,M)→M b→Base.ref.heap.size≤b) (W_:∀b,mX γ (ws.set i m') pJ b→Base.ref.heap.size≤b) (hms:x.m.ms=0→x'.m.ms=0∨wakes P ga ga'=true):
  dZ P γ ((gs.map (woken P ga ga' w')).setIfInBounds (qs.length+1+i) ga') w' (t++u) k₀ aO d₀ qs left p' x' (ws.set i m') tl' pJ:=by
 have hil:=lt_of_some hi
 have hsz:=I.size
 have hlt:qs.length+1+i<gs.size:=by omega
 have hlen:(ws.set i m').length=ws.length:=List.length_set
 refine⟨by simp;omega,by rw[hlen];exact hY,fun j q hj=>?_,fun j b hj=>?_,by rw[W9];exact hN,hat,fun g hg b hb=>?_,ht,he,hk,fun g k M b hp hb=>?_,fun b hb=>?_,I.geo,I.pF,I.jc,I.mm⟩
 ·have:=lt_of_some hj
  exact I.quit' hlt hj (by omega) fun op hop=>by rw[hu op hop];omega
 ·rcases fJ hj with⟨rfl,rfl,_⟩ | ⟨hne,hj⟩
  ·exact⟨h1,hok,ga',by rw[jF hlt,if_pos rfl],hg'⟩
  ·obtain⟨e1,e2,_⟩:=I.wG j b hj
   exact⟨e1,e2,I.abk hlt hms hj (by omega)⟩
 ·rw[hlen]at hg
  exact(I.Ri g hg b hb).app fun op hop a ha hl hp=>absurd hl (hpl op hop a ha hp b hb)
 ·rcases qQ hp with⟨rfl,rfl,rfl⟩ | ⟨j,n,rfl,hj,hn⟩
  ·exact I.low 0 _ _ b jU hb
  ·rcases fJ hj with⟨rfl,rfl,_⟩ | ⟨hne,hj⟩
   ·exact hlow k M b hn hb
   ·exact I.low _ k M b (by rw[iL hj];exact hn) hb
 ·rcases hb with hb | hb
  ·exact I.rM b (.inl hb)
  ·exact W_ b hb

theorem rO{g:Nat}{k:Hp}{M:Nat→Prop}{es:Array Event}{fn:FuncId}{pos:String}{n:Nat}{dv:Nat→Nat}{pr:Rk}{sh hid:Nat→Prop}(Y:LY w t n dv pr sh hid)(hg:pr g=some (k,M))(gu:dX k M w w' es){b:Nat}(hb:hid b):
  w'.heap[b]? =w.heap[b]? ∧∀op∈MemOp.ofEvents g fn pos es,∀a,op.act.touch? =some a→¬In a.loc b:=by
 have hk:=Y.uH b g k M hb hg
 have hlt:=Y.lt b (.inr hb)
 refine⟨gu.keep b hlt fun hm=>?_,O4 gu hlt fun h=>by rw[hk]at h;cases h⟩
 have:=(Y.DZ g k M hg).dom b hm
 rw[hk]at this;cases this
theorem AX{g:Nat}{k:Hp}{M:Nat→Prop}{es:Array Event}{fn:FuncId}{pos:String}{n:Nat}{dv:Nat→Nat}{pr:Rk}{sh hid:Nat→Prop}(Y:LY w t n dv pr sh hid)(hg:pr g=some (k,M))(gu:dX k M w w' es){b:Nat}(hb:sh b):
  w'.heap[b]? =w.heap[b]? ∧∀op∈MemOp.ofEvents g fn pos es,∀a,op.act.touch? =some a→¬In a.loc b:=by
 have hlt:=Y.lt b (.inl hb)
 have hk:∀o,k b=some o→kN o=true:=fun o ho=>Y.Ij b g k M o hb hg ho
 refine⟨?_,O4 gu hlt fun h=>?_⟩
 ·by_cases hm:M b
  ·obtain⟨o,ho⟩:=Option.isSome_iff_exists.1 ((Y.DZ g k M hg).dom b hm)
   exact gu.Dw b o ho (hk o ho)
  ·exact gu.keep b hlt hm
 ·obtain⟨o,ho⟩:=Option.isSome_iff_exists.1 h
  rw[ho]
  exact dU (hk o ho)
theorem Xa{G:Grp}(h:uF G w x)(h1:w'.heap[G.Wg]? =w.heap[G.Wg]?)(h2:∀q,G.mu=some q→w'.heap[q.1]? =w.heap[q.1]?):uF G w' x:=⟨fun q hq=>by rw[h2 q hq];exact h.1 q hq,by rw[h1];exact h.2⟩
theorem Grp.I5{G:Grp}{q:Nat×TypeId}(h:G.mu=some q):G.Mu=q.1:=by simp[Grp.Mu,h]
end
end Go.aS

/- The machine, inside a group: a worker's own step; what it says anew. Conditions: none; over any program. -/
namespace Go.aS
open Go.Conc (crowd parked rcase scase QuitsIn QuitsD Before Knows knows_own touchAt touchAt_of touchAt_old getElem?_append_old getElem?_append_cases lt_size_of_getElem? touch_of hb_po hb_app ofEvents_eq woken Deaf deaf_old g?_old act?_old heard_old lt_of_act? Deaf_own Deaf_other counts_old)
open Go.ConcM (OsLater)
open Go.ConcN (RelBy)
section
variable{P:Program}{γ:GP}{gs:Array Goroutine}{w w':World}{t u:Trace}{k₀:Hp}{aO:Nat→Prop}{d₀:Nat}{qs:List (Nat×Nat)}{left:Nat}{p p':MP}{x x':XS}{ws:List (Σ j,WM P γ j)}{tl tl':TL}{esc pJ:List ah}
theorem jG{α:Type}{l:List α}{i:Nat}{a:α}(h:l[i]? =some a):l.set i a=l:=by
 apply List.ext_getElem?
 intro j
 rw[List.getElem?_set]
 split
 ·rename_i e;subst e
  rw[if_pos (lt_of_some h),h]
 ·rfl
theorem wQ{i:Nat}{m m':Σ j,WM P γ j}(hi:ws[i]? =some m)(h:γ.mu≠none→(m'.2.runs↔m.2.runs)):mX γ (ws.set i m') esc=mX γ ws esc:=by
 funext b
 apply propext
 unfold mX
 constructor
 ·rintro(⟨h1,h2,h3⟩ | h1)
  ·refine .inl ⟨h1,h2,fun y hy hr=>?_⟩
   obtain⟨j,hj⟩:=List.getElem?_of_mem hy
   by_cases hji:j=i
   ·subst hji
    rw[hi]at hj;cases hj
    exact h3 m' (List.mem_of_getElem? (i:=j) (by rw[List.getElem?_set,if_pos rfl,if_pos (lt_of_some hi)])) ((h h1).2 hr)
   ·exact h3 y (List.mem_of_getElem? (i:=j) (by rw[List.getElem?_set,if_neg (Ne.symm hji)];exact hj)) hr
  ·exact .inr h1
 ·rintro(⟨h1,h2,h3⟩ | h1)
  ·refine .inl ⟨h1,h2,fun y hy hr=>?_⟩
   obtain⟨j,hj⟩:=List.getElem?_of_mem hy
   rcases fJ hj with⟨rfl,rfl,_⟩ | ⟨_,hj⟩
   ·exact h3 m (List.mem_of_getElem? hi) ((h h1).1 hr)
   ·exact h3 y (List.mem_of_getElem? hj) hr
  ·exact .inr h1

theorem Zt{n g:Nat}{dv:Nat→Nat}{pr:Rk}{sh hid:Nat→Prop}{k:Hp}{M:Nat→Prop}(Y:LY w t n dv pr sh hid)(hg:pr g=some (k,M)){b:Nat}(hb:sh b):snap k w w' b=k b:=by
 cases hk:k b with
 | none=>exact vC hk (Y.lt b (.inl hb))
 | some o=>exact vk hk (dU (Y.Ij b g k M o hb hg hk))

theorem I7{j:Nat}{m:WM P γ j}{g:Nat}{bl:List Nat}(h:m.holds w t g bl)(hw:m.runs∨(w'.heap[γ.C]? =w.heap[γ.C]? ∧∀op∈u,∀a,op.act.touch? =some a→In a.loc γ.C→op.g=g)):m.holds w' (t++u) g bl:=by
 rcases hw with hw | ⟨h1,h2⟩
 ·cases m with
  | run T=>exact h
  | _=>exact hw.elim
 ·exact WM.AV (m:=m) h h1 h2
theorem Rt{esc:List ah}(hm:γ.mu≠none)(h:∀(i:Nat) (m:Σ j,WM P γ j),ws[i]? =some m→¬m.2.runs):mX γ ws esc γ.C:=.inl ⟨hm,rfl,fun m hmem hr=>let⟨i,hi⟩:=List.getElem?_of_mem hmem;h i m hi hr⟩

theorem dZ.Ru[Base](I:dZ P γ gs w t k₀ aO d₀ qs left p x ws tl esc)(hmu:γ.mu≠none){i:Nat}{m m':Σ j,WM P γ j}(hi:ws[i]? =some m)(h1:m'.1=m.1)(hhas:m'.2.has↔m.2.has)(I8:γ.tag m.1≠none→(m'.2.been↔m.2.been))
  (hC:(∀(i:Nat) (m:Σ j,WM P γ j),ws[i]? =some m→¬m.2.runs)→w'.heap[γ.C]? =w.heap[γ.C]? ∧∀op∈u,∀a,op.act.touch? =some a→¬In a.loc γ.C)
  (hown:m.2.has→m.2.holds w t (qs.length+1+i) (fU ws)→m'.2.holds w' (t++u) (qs.length+1+i) (fU ws)):zx γ w' (t++u) qs.length (ws.set i m') tl:=by
 have T:=I.wP hmu
 have Rx:(∀l c,tl= .free l c→∀(i:Nat) (m:Σ j,WM P γ j),ws[i]? =some m→¬m.2.runs):=fun l c e i m hi hr=>(T.free l c e).1 i m hi (pG hr)
 have hfree:∀l c,tl= .free l c→w'.heap[γ.C]? =w.heap[γ.C]? ∧∀op∈u,∀a,op.act.touch? =some a→¬In a.loc γ.C:=fun l c e=>hC (Rx l c e)
 refine T.app List.length_set (vH hi h1 I8) (fun j y hj=>?_) (fun j y e hj hy hh=>?_) ?_ ?_
 ·rcases fJ hj with⟨rfl,rfl,_⟩ | ⟨_,hj⟩
  ·exact⟨m,hi,hhas⟩
  ·exact⟨y,hj,.rfl⟩
 ·by_cases hji:j=i
  ·subst hji
   rw[hi]at hj;cases hj
   exact⟨m',by rw[List.getElem?_set,if_pos rfl,if_pos (lt_of_some hi)],hhas.2 hy,hown hy hh⟩
  ·refine⟨y,by rw[List.getElem?_set,if_neg (Ne.symm hji)];exact hj,hy,I7 hh ?_⟩
   by_cases hr:y.2.runs
   ·exact .inl hr
   ·right
    have:=hC fun i' m'' hi' hr'=>?_
    ·exact⟨this.1,fun op hop a ha hl=>absurd hl (this.2 op hop a ha)⟩
    ·have:=(T.held j e).2 i' m'' hi' (pG hr')
     subst this
     rw[hj]at hi';cases hi'
     exact hr hr'
 ·cases tl with
  | free l c=>exact .inr (hfree l c rfl).1
  | «at» i=>exact .inl fun l c e=>by cases e
 ·cases tl with
  | free l c=>exact .inr (hfree l c rfl).2
  | «at» i=>exact .inl fun l c e=>by cases e

theorem dZ.U2[Base](I:dZ P γ gs w t k₀ aO d₀ qs left p x ws tl esc){i:Nat}{m m':Σ j,WM P γ j}(hi:ws[i]? =some m)(hwr:m'.2.wa.wr= .live↔m.2.wa.wr= .live)
  (hw:∀b o,(b,o)∈esc.flatten→w'.heap[b]? =w.heap[b]? ∧∀op∈u,∀a,op.act.touch? =some a→¬In a.loc b)
  (hg:∀op∈u,op.g=qs.length+1+i) (hr:m.2.wa.wr≠ .live→(∀n,t.size≤n→(t++u).g? n=some (qs.length+1+i)→¬(t++u).counts n)∧∀op∈u,op.act≠ .mark (.releaseMerge (cell0 γ.Mu))):CQ γ w' (t++u) qs.length (ws.set i m') esc:=by
 refine I.lU.app List.length_set (fun j y hj=>?_) (fun b o hb=>(hw b o hb).1) (fun op hop a ha b o hb=>(hw b o hb).2 op hop a ha) fun j y hj hl=>?_
 ·rcases fJ hj with⟨rfl,rfl,_⟩ | ⟨_,hj⟩
  ·exact⟨m,hi,hwr⟩
  ·exact⟨y,hj,.rfl⟩
 ·by_cases hji:j=i
  ·subst hji
   rw[hi]at hj;cases hj
   exact⟨(hr hl).1,fun op hop _=>(hr hl).2 op hop⟩
  ·exact⟨gQ fun op hop=>by rw[hg op hop];omega,fun op hop e=>by rw[hg op hop]at e;omega⟩

theorem dZ.acW[Base](I:dZ P γ gs w t k₀ aO d₀ qs left p x ws tl esc){i j:Nat}{g g':Goroutine}{k:Hp}{M:Nat→Prop}{T:yU P γ j g k M}{T':yU P γ j g' (snap k w w') (grown M w w')}{es:Array Event}{fn:FuncId}{pos:String}(hi:ws[i]? =some ⟨j,.run T⟩)(gu:dX k M w w' es):
  dZ P γ ((gs.map (woken P g g' w')).setIfInBounds (qs.length+1+i) g') w' (t++MemOp.ofEvents (qs.length+1+i) fn pos es) k₀ aO d₀ qs left p x (ws.set i ⟨j,.run T'⟩) tl esc:=by
 obtain⟨hj,hok,_⟩:=I.wG i _ hi
 simp only at hj
 subst hj
 have hpr:AU k₀ aO qs.length ws (qs.length+1+j)=some (k,M):=iL hi
 have K:=I.Y.DZ _ k M hpr
 have O_:γ.mu≠none→snap k w w' γ.Mu=k γ.Mu:=fun h=>Zt I.Y hpr (.inr ⟨h,rfl⟩)
 have hru:γ.mu≠none→((WM.run T':WM P γ j).runs↔(WM.run T:WM P γ j).runs):=fun h=>by simp only[WM.runs,O_ h]
 have hro:vG γ (snap k w w')=vG γ k:=by
  unfold vG
  by_cases h:γ.mu=none
  ·rw[if_pos h,if_pos h]
  ·rw[if_neg h,if_neg h,O_ h]
 have hwa:(WM.run T':WM P γ j).wa=(WM.run T:WM P γ j).wa:=by simp only[WM.wa,hro]
 have hil:=lt_of_some hi
 have hmap:(ws.map fun m=>m.2.wa)[j]? =some (WM.run T:WM P γ j).wa:=by simp[hi]
 have Hq:∀op∈MemOp.ofEvents (qs.length+1+j) fn pos es,op.g=qs.length+1+j:=fun op hop=>by obtain⟨e,_,rfl⟩:=mem_ofEvents hop;rfl
 refine I.turn hi rfl ?_ (.inl rfl) ?_ (by rw[hwa,jG hmap];exact I.N) (Xa I.at_ (AX (fn:=fn) (pos:=pos) I.Y hpr gu (.inl rfl)).1 fun q hq=>by rw[←Grp.I5 hq];exact(AX (fn:=fn) (pos:=pos) I.Y hpr gu (.inr ⟨by rw[hq];simp,rfl⟩)).1)
  Hq (fun op hop a ha _ b hb=>(AX I.Y hpr gu hb).2 op hop a ha) (fun hmu=>?_) ?_ (I.base.guar gu fun b hb=>I.low _ k M b hpr hb) (fun k' M' b e hb=>?_) (fun b hb=>?_) (fun h=>.inl h)
 ·obtain⟨h1,h2⟩:=hok
  refine⟨h1,fun hmu=>?_⟩
  obtain⟨h3,h4,h5⟩:=h2 hmu
  refine⟨fun ht=>by rw[O_ hmu];exact h3 ht,fun ht=>⟨.inl (h4 ht).1,by rw[O_ hmu];exact(h4 ht).2⟩,fun l hl=>?_⟩
  rw[O_ hmu]at hl
  obtain⟨c,h6,h7,h8⟩:=h5 l hl
  have hw:=K.uG.get h6 h8
  have hlt:=Nat.lt_of_lt_of_le (m_ hw) gu.size
  obtain⟨c',hc'⟩:∃c',w'.heap[γ.C]? =some c':=⟨_,Array.getElem?_eq_getElem hlt⟩
  refine⟨c',?_,.inl h7,gu.stay _ c c' hw h8 hc'⟩
  simp only[snap,h6,isC,h8,Bool.false_eq_true,if_false,Option.isSome_some,Bool.true_or,if_true]
  exact hc'
 ·rw[zA (m':=⟨j,.run T'⟩) hi rfl,tX hi,wQ hi hru]
  exact I.Y.step hpr (by omega) gu
 ·refine I.Ru hmu hi rfl ?_ ?_ (fun hn=>?_) fun _ hh l hl=>?_
  ·simp only[WM.has,O_ hmu]
  ·exact fun _=>by simp only[WM.been,O_ hmu]
  ·exact rO I.Y hpr gu (Rt hmu hn)
  ·rw[O_ hmu]at hl;exact hh l hl
 ·refine I.U2 hi .rfl (fun b o hb=>rO I.Y hpr gu (.inr ⟨o,hb⟩)) Hq fun h=>absurd rfl h
 ·cases e
  rcases hb with hb | hb
  ·exact I.low _ k M b hpr hb
  ·exact Nat.le_trans I.base.size hb.1
 ·rw[wQ (m':=⟨j,.run T'⟩) hi hru]at hb
  exact I.rM b (.inr hb)
end
end Go.aS

/- Acts on the mutex: numbers, world, words. Conditions: none; over any program. -/
namespace Go.aS
theorem setCell_at{w:World}{b off:Nat}{c:Array Value}{t:TypeId}{fz:Nat×Nat}{v:Value}(h:w.heap[b]? =some (.cells c t fz)):(w.setCell ⟨b,off,none⟩ v).heap[b]? =some (.cells (c.setIfInBounds off v) t fz):=by
 simp[World.setCell,Array.getElem?_modify,h]
theorem tY{w:World}{b b' off:Nat}{v:Value}(h:b'≠b):(w.setCell ⟨b,off,none⟩ v).heap[b']? =w.heap[b']? :=by
 simp[World.setCell,Array.getElem?_modify,Ne.symm h]
theorem Ny{w:World}{a:Addr}{v:Value}:(w.setCell a v).heap.size=w.heap.size:=by simp[World.setCell]

section
variable{G:Grp}{Mu:Nat}{tM:TypeId}{w:World}{x:XS}
theorem Grp.Pg(h:G.mu=some (Mu,tM)):G.Mu=Mu:=by simp[Grp.Mu,h]

theorem Nz(h:uF G w x)(hm:G.mu=some (Mu,tM))(hne:G.Wg≠Mu){n:Nat}{x':XS}(h1:x'.m.st=n)(h2:x'.m.ms=x.m.ms)(h3:x'.g=x.g):uF G (w.setCell (cell0 G.Mu) (.int .i32 (n:Int))) x':=by
 rw[Grp.Pg hm]
 refine⟨fun q hq=>?_,?_⟩
 ·rw[hm]at hq
  obtain rfl:=Option.some.inj hq
  have:=setCell_at (off:=0) (v:=.int .i32 (n:Int)) (h.1 _ hm)
  rw[show cell0 Mu=⟨Mu,0,none⟩from rfl,this]
  simp[BQ,h1,h2]
 ·rw[show cell0 Mu=⟨Mu,0,none⟩from rfl,tY hne,h3]
  exact h.2
theorem Xb(h:uF G w x)(hm:G.mu=some (Mu,tM))(hne:G.Wg≠Mu){n:Nat}{x':XS}(h1:x'.m.st=x.m.st)(h2:x'.m.ms=n)(h3:x'.g=x.g):uF G (w.setCell (cell1 G.Mu) (.int .u32 (n:Int))) x':=by
 rw[Grp.Pg hm]
 refine⟨fun q hq=>?_,?_⟩
 ·rw[hm]at hq
  obtain rfl:=Option.some.inj hq
  have:=setCell_at (off:=1) (v:=.int .u32 (n:Int)) (h.1 _ hm)
  rw[show cell1 Mu=⟨Mu,1,none⟩from rfl,this]
  simp[BQ,h1,h2]
 ·rw[show cell1 Mu=⟨Mu,1,none⟩from rfl,tY hne,h3]
  exact h.2
theorem Zu(h:uF G w x){x':XS}(h1:x'.m=x.m)(h3:x'.g=x.g):uF G w x':=⟨fun q hq=>by rw[h1];exact h.1 q hq,by rw[h3];exact h.2⟩
end
structure aaR(G:Grp)(left:Nat)(p:MP)(as:List WA)(i:Nat)(w:World)(x:XS)(a:LA)(r:MR)(d b:Nat)(s':LS):Prop where
 out:∃r' o' B' d' b' x',s'= .mu r' o' B' d' b'∧N1 left p x' (as.set i ⟨r',.live,true,o',B'⟩)∧uF G (gJ G a x w) x'∧(x.m.ms=0→x'.m.ms=0∨a= .Bh)∧((b=1→r= .hold)→b'=1→r'= .hold)∧
  (a≠ .acq→a≠ .rm→b'=b)∧(a= .acq→b=0∧b'=1∧d=0∧r= .hold)∧(a= .rm→b=1∧b'=2∧d=0∧r= .hold)∧deafBehind d (bT G a x)=d'∧x'.g=x.g

theorem Ry{G:Grp}{Mu:Nat}{tM:TypeId}{left:Nat}{p:MP}{as:List WA}{i:Nat}{w:World}{x:XS}{a:LA}{r:MR}{o:Option Nat}{B d b:Nat}{s':LS}(hm:G.mu=some (Mu,tM))(hne:G.Wg≠Mu)(H:N1 left p x as)(hi:as[i]? =some ⟨r,.live,true,o,B⟩)(hat:uF G w x)
  (hcan:eX G a (.mu r o B d b)) (hnb:¬jk a x) (hn:oP a (.mu r o B d b) x s'):aaR G left p as i w x a r d b s':=by
 have same:∀(d':Nat),s'= .mu r o B d' b→(gJ G a x w).heap=w.heap→a≠ .acq→a≠ .rm→deafBehind d (bT G a x)=d'→aaR G left p as i w x a r d b s':=fun d' e1 e2 e3 e4 e5=>
  ⟨⟨r,o,B,d',b,x,e1,by rw[jG hi];exact H,⟨fun q hq=>by rw[e2];exact hat.1 q hq,by rw[e2];exact hat.2⟩,fun h=>.inl h,fun h=>h,fun _ _=>rfl,fun h=>absurd h e3,fun h=>absurd h e4,e5,rfl⟩⟩
 have hst:x.m.st=8*x.m.n+4*x.m.s+2*x.m.w+x.m.l:=rfl
 have hb:=H.tV.bits
 cases a with
 | Fa=>exact same _ hn rfl (by simp) (by simp) rfl
 | en=>exact same _ hn rfl (by simp) (by simp) rfl
 | ask=>exact same _ hn rfl (by simp) (by simp) rfl
 | non=>exact same _ hn rfl (by simp) (by simp) rfl
 | clk=>exact same _ hn rfl (by simp) (by simp) rfl
 | load=>
  obtain⟨h1,h2⟩:=H.load hi rfl
  refine⟨⟨_,_,_,_,_,_,hn,h1,Zu hat rfl rfl,fun h=>.inl h,fun hbr hb'=>?_,fun _ _=>rfl,fun h=>(by cases h),fun h=>(by cases h),rfl,rfl⟩⟩
  simp only[hbr hb',kE]
 | cas o₁ n r'=>
  obtain⟨_,hd,hb1,⟨y,hy,hoy,hc⟩,ho⟩:=hcan
  have ho':o=some o₁∨o=none:=ho.imp id fun h=>h.2.2
  by_cases he:x.m.st=o₁
  ·have e1:s'= .mu r' none B d b:=by rw[show s'=_ from hn,if_pos he]
   have h1:=H.hit (n:=n) hi rfl rfl ho' he hy hoy hc
   refine⟨⟨r',none,B,d,b,_,e1,h1,?_,fun h=>.inl h,fun _ h=>absurd h hb1,fun _ _=>rfl,fun h=>(by cases h),fun h=>(by cases h),?_,rfl⟩⟩
   ·simp only[gJ,if_pos he]
    exact Nz hat hm hne (kQ.wM _ _) rfl rfl
   ·simp only[bT,if_pos he];rfl
  ·have e1:s'= .mu r none B d b:=by rw[show s'=_ from hn,if_neg he]
   have h1:=H.miss hi rfl rfl ho' he
   refine⟨⟨r,none,B,d,b,x,e1,h1,?_,fun h=>.inl h,fun _ h=>absurd h hb1,fun _ _=>rfl,fun h=>(by cases h),fun h=>(by cases h),?_,rfl⟩⟩
   ·simp only[gJ,if_neg he];exact hat
   ·simp only[bT,if_neg he];rfl
 | Kr=>
  obtain⟨_,hd,hb1,rfl⟩:=hcan
  have h1:=H.Kr hi rfl rfl
  refine⟨⟨_,_,_,_,_,_,hn,h1,Nz hat hm hne (kQ.wM _ _) rfl rfl,fun h=>.inl h,fun _ h=>absurd h hb1,fun _ _=>rfl,fun h=>(by cases h),fun h=>(by cases h),rfl,rfl⟩⟩
 | uz keep=>
  obtain⟨_,hd,hb1,rfl,o₁,rfl,hk⟩:=hcan
  have h1:=H.uz (keep:=keep) hi rfl rfl rfl rfl hk
  refine⟨⟨_,_,_,_,_,_,hn,h1,Nz hat hm hne (kQ.wM _ _) rfl rfl,fun h=>.inl h,fun _ h=>absurd h hb1,fun _ _=>rfl,fun h=>(by cases h),fun h=>(by cases h),rfl,rfl⟩⟩
 | Hf=>
  obtain⟨_,hd,hb1,rfl,rfl⟩:=hcan
  have h1:=H.Hf hi rfl rfl rfl rfl hnb
  refine⟨⟨_,_,_,_,_,_,hn,h1,Xb hat hm hne rfl rfl rfl,fun h=>absurd h hnb,fun _ h=>absurd h hb1,fun _ _=>rfl,fun h=>(by cases h),fun h=>(by cases h),?_,rfl⟩⟩
  simp[deafBehind,bT,qy,qo,uD,yT]
 | Bh=>
  obtain⟨_,hd,hb1,hr⟩:=hcan
  have h1:=H.Bh hi rfl hr
  refine⟨⟨_,_,_,_,_,_,hn,h1,Xb hat hm hne rfl rfl rfl,fun h=>.inr rfl,fun _ h=>absurd h hb1,fun _ _=>rfl,fun h=>(by cases h),fun h=>(by cases h),?_,rfl⟩⟩
  simp[deafBehind,bT,qy,qo,uD,yT]
 | acq=>
  obtain⟨_,rfl,rfl,rfl⟩:=hcan
  exact⟨⟨.hold,o,B,0,1,x,hn,by rw[jG hi];exact H,hat,fun h=>.inl h,fun _ _=>rfl,fun h=>absurd rfl h,fun _=>⟨rfl,rfl,rfl,rfl⟩,fun h=>(by cases h),rfl,rfl⟩⟩
 | rm=>
  obtain⟨_,rfl,rfl,rfl⟩:=hcan
  exact⟨⟨.hold,o,B,0,2,x,hn,by rw[jG hi];exact H,hat,fun h=>.inl h,fun _ h=>(by cases h),fun _ h=>absurd rfl h,fun h=>(by cases h),fun _=>⟨rfl,rfl,rfl,rfl⟩,rfl,rfl⟩⟩
 | _=>exact hcan.elim
end Go.aS

/- The machine, inside a group: a worker's act on the mutex. Conditions: none; over any program. -/
namespace Go.aS
open Go.Conc (crowd parked rcase scase QuitsIn QuitsD Before Knows knows_own touchAt touchAt_of touchAt_old getElem?_append_old getElem?_append_cases lt_size_of_getElem? touch_of hb_po hb_app ofEvents_eq woken Deaf deaf_old g?_old act?_old heard_old lt_of_act? Deaf_own Deaf_other counts_old)
open Go.ConcM (OsLater)
open Go.ConcN (RelBy)
def D6(b:Nat)(e:Event):Prop:=(∃m,e=qo m∧(∀a,m≠ .release a)∧(∀a,m≠ .read a)∧∀a,m≠ .write a)∨∃c:Addr,c.block=b∧(e=uD c∨e=yT c)

theorem I9{b:Nat}{e:Event}(h:D6 b e):(∀a,MemAct.ofEvent e≠ .mark (.release a))∧∀a,(MemAct.ofEvent e).touch? =some a→a.kind= .atomic∧In a.loc b∧∀b',In a.loc b'→b'=b:=by
 rcases h with⟨m,rfl,h1,h2,h3⟩ | ⟨c,rfl,rfl | rfl⟩
 ·have e1:MemAct.ofEvent (qo m)= .mark m:=rfl
  refine⟨fun a e=>?_,fun a ha=>?_⟩
  ·rw[e1]at e;injection e with e;exact h1 a e
  ·rw[e1]at ha
   cases m <;>simp only[MemAct.touch?]at ha <;>first | (cases ha;done) | exact absurd rfl (h2 _) | exact absurd rfl (h3 _)
 ·refine⟨fun a e=>(by cases e),fun a ha=>?_⟩
  simp only[uD,MemAct.ofEvent,MemAct.touch?,Option.some.injEq]at ha
  subst ha
  exact⟨rfl,rfl,fun b' e=>e.symm⟩
 ·refine⟨fun a e=>(by cases e),fun a ha=>?_⟩
  simp only[yT,MemAct.ofEvent,MemAct.touch?,Option.some.injEq]at ha
  subst ha
  exact⟨rfl,rfl,fun b' e=>e.symm⟩

theorem Xc{t:Trace}{g b size:Nat}{fn:FuncId}{pos:String}{es:Array Event}(he:∀e∈es,D6 b e)(hp:Zn t g b)(hb:b<size):Kt t g size (MemOp.ofEvents g fn pos es)∧∀op∈MemOp.ofEvents g fn pos es,∀a,op.act.touch? =some a→a.kind≠ .plain∧∀b',In a.loc b'→b'=b:=by
 refine⟨⟨fun op hop=>?_,fun op hop a ha=>?_,fun op hop a=>?_⟩,fun op hop a ha=>?_⟩ <;>obtain⟨e,h1,rfl⟩:=mem_ofEvents hop
 ·rfl
 ·obtain⟨h2,h3,h4⟩:=(I9 (he e h1)).2 a ha
  exact⟨by rw[h2];simp,fun h=>(by rw[h2]at h;cases h),b,h3,h4,hb,hp⟩
 ·exact(I9 (he e h1)).1 a
 ·obtain⟨h2,h3,h4⟩:=(I9 (he e h1)).2 a ha
  exact⟨by rw[h2];simp,h4⟩

theorem Xd{G:Grp}{a:LA}{x:XS}{r:MR}{o:Option Nat}{B d b:Nat}(hcan:eX G a (.mu r o B d b)):∀e∈bT G a x,D6 G.Mu e:=by
 have hm:∀m,(∀a,m≠ .release a)→(∀a,m≠ .read a)→(∀a,m≠ .write a)→D6 G.Mu (qo m):=fun m h1 h2 h3=>.inl ⟨m,rfl,h1,h2,h3⟩
 have h0:D6 G.Mu (uD (cell0 G.Mu)):=.inr ⟨_,rfl,.inl rfl⟩
 have h1:D6 G.Mu (yT (cell0 G.Mu)):=.inr ⟨_,rfl,.inr rfl⟩
 have h2:D6 G.Mu (uD (cell1 G.Mu)):=.inr ⟨_,rfl,.inl rfl⟩
 have h3:D6 G.Mu (yT (cell1 G.Mu)):=.inr ⟨_,rfl,.inr rfl⟩
 have hd:=hm .disable (by simp) (by simp) (by simp)
 have hn:=hm .enable (by simp) (by simp) (by simp)
 intro e he
 cases a with
 | Fa=>simp only[bT,Array.mem_singleton,List.mem_toArray,List.mem_singleton]at he;subst he;exact hd
 | en=>simp only[bT,Array.mem_singleton,List.mem_toArray,List.mem_singleton]at he;subst he;exact hn
 | ask=>simp[bT]at he
 | non=>simp[bT]at he
 | clk=>simp[bT]at he
 | load=>simp[bT]at he
 | cas o n r'=>
  simp only[bT]at he
  split at he <;>simp at he
  ·rcases he with rfl | rfl
   ·exact h0
   ·exact h1
  ·subst he;exact h0
 | Kr=>simp[bT]at he;rcases he with rfl | rfl;exact h0;exact h1
 | uz k=>simp[bT]at he;rcases he with rfl | rfl;exact h0;exact h1
 | Hf=>simp[bT,qy]at he;rcases he with rfl | rfl | rfl | rfl;exact hd;exact h2;exact h3;exact hn
 | Bh=>simp[bT,qy]at he;rcases he with rfl | rfl | rfl | rfl;exact hd;exact h2;exact h3;exact hn
 | acq=>simp[bT]at he;subst he;exact hm _ (by simp) (by simp) (by simp)
 | rm=>simp[bT]at he;subst he;exact hm _ (by simp) (by simp) (by simp)
 | _=>exact hcan.elim

structure wR(b:Nat)(w w':World):Prop where
 size:w'.heap.size=w.heap.size
 off:∀b',b'≠b→w'.heap[b']? =w.heap[b']?
 os:OsLater w.os w'.os
 output:w'.output=w.output
 tape:w'.tape=w.tape
theorem wR.refl(b:Nat)(w:World):wR b w w:=⟨rfl,fun _ _=>rfl,.refl _,rfl,rfl⟩
theorem wR.set(w:World)(a:Addr)(v:Value):wR a.block w (w.setCell a v):=⟨Ny,fun b' h=>by simp[World.setCell,Array.getElem?_modify,Ne.symm h],.refl _,rfl,rfl⟩
theorem NC{G:Grp}{a:LA}{x:XS}{w:World}{r:MR}{o:Option Nat}{B d b:Nat}(hcan:eX G a (.mu r o B d b)):wR G.Mu w (gJ G a x w):=by
 cases a with
 | ask=>exact⟨rfl,fun _ _=>rfl,.refl _,rfl,rfl⟩
 | clk=>exact⟨rfl,fun _ _=>rfl,⟨w.tick,rfl⟩,rfl,rfl⟩
 | cas o n r'=>simp only[gJ];split;exact wR.set _ (cell0 G.Mu) _;exact .refl _ _
 | Kr=>exact wR.set _ (cell0 G.Mu) _
 | uz k=>exact wR.set _ (cell0 G.Mu) _
 | Hf=>exact wR.set _ (cell1 G.Mu) _
 | Bh=>exact wR.set _ (cell1 G.Mu) _
 | non=>exact .refl _ _
 | Fa=>exact .refl _ _
 | en=>exact .refl _ _
 | load=>exact .refl _ _
 | acq=>exact .refl _ _
 | rm=>exact .refl _ _
 | _=>exact hcan.elim
theorem Kept.Zv{r w w':World}{b:Nat}(h:Kept r w)(e:wR b w w')(hb:r.heap.size≤b):Kept r w':=h.off e.os e.output e.tape e.size fun b' hb'=>e.off b' (by omega)

section
variable{P:Program}{γ:GP}{gs:Array Goroutine}{w:World}{t:Trace}{k₀:Hp}{aO:Nat→Prop}{d₀:Nat}{qs:List (Nat×Nat)}{left:Nat}{p:MP}{x:XS}{ws:List (Σ j,WM P γ j)}{tl tl':TL}{esc:List ah}
theorem dZ.wMu[Base](I:dZ P γ gs w t k₀ aO d₀ qs left p x ws tl esc)(hmu:γ.mu≠none){i:Nat}{m m':Σ j,WM P γ j}(hi:ws[i]? =some m)(h1:m'.1=i){r:MR}{o:Option Nat}{B d b:Nat}{s':LS}{a:LA}{k:Hp}{M:Nat→Prop}
  (hwa:m.2.wa=⟨r,.live,true,o,B⟩) (hact:m.2.act=some (k,M)) (aaS:m'.2.act=some (k,M)) (hd:m.2.deaf=d) (hnr:¬m.2.runs) (aeA:¬m'.2.runs)
  (hcan:eX γ.toGrp a (.mu r o B d b)) (hnb:¬jk a x) (hn:oP a (.mu r o B d b) x s') (hs':∀r' o' B' d' b',s'= .mu r' o' B' d' b'→m'.2.wa=⟨r',.live,true,o',B'⟩∧m'.2.deaf=d') (hok:m'.2.ok)
  {ga ga':Goroutine} (hg':ga'=m'.2.g) (hrun:ga'.status= .running) (hwk:a= .Bh→mayWake P ga=true) {fn:FuncId} {pos:String}
  (ht:zx γ (gJ γ.toGrp a x w) (t++MemOp.ofEvents (qs.length+1+i) fn pos (bT γ.toGrp a x)) qs.length (ws.set i m') tl'):
  ∃x',dZ P γ ((gs.map (woken P ga ga' (gJ γ.toGrp a x w))).setIfInBounds (qs.length+1+i) ga') (gJ γ.toGrp a x w) (t++MemOp.ofEvents (qs.length+1+i) fn pos (bT γ.toGrp a x)) k₀ aO d₀ qs left p x' (ws.set i m') tl' esc:=by
 obtain⟨⟨Mu,tM⟩,hq⟩:=Option.ne_none_iff_exists'.1 hmu
 have hMu:γ.Mu=Mu:=Grp.Pg hq
 have hne:γ.Wg≠Mu:=by
  rcases I.geo with h | h
  ·rwa[hMu]at h
  ·exact absurd h hmu
 have hmap:(ws.map fun m=>m.2.wa)[i]? =some ⟨r,.live,true,o,B⟩:=by simp[hi,hwa]
 obtain⟨r',o',B',d',b',x',e1,hN,hat,hms,_,_,_,_,hdf,_⟩:=(Ry hq hne I.N hmap I.at_ hcan hnb hn).out
 obtain⟨acY,hd'⟩:=hs' _ _ _ _ _ e1
 have hil:=lt_of_some hi
 have Xe:mem qs.length ws.length (qs.length+1+i):=.inr ⟨by omega,by omega⟩
 have I_:OE γ γ.Mu:=.inr ⟨hmu,rfl⟩
 have hlt:=I.Y.lt _ (.inl I_)
 obtain⟨S,St⟩:=Xc (fn:=fn) (pos:=pos) (Xd (x:=x) hcan) (I.Ri _ Xe _ I_) hlt
 have We:=NC (x:=x) (w:=w) hcan
 have aaT:∀b,mX γ ws esc b→b≠γ.Mu:=by
  rintro b (⟨h,rfl,_⟩ | ⟨o,h⟩)
  ·exact(I.pF h).2
  ·obtain⟨A,hA,hb⟩:=List.mem_flatten.1 h
   obtain⟨j,hj⟩:=List.getElem?_of_mem hA
   have hjl:j<ws.length:=by rw[←I.lU.len];exact lt_of_some hj
   by_cases hl:(ws[j]).2.wa.wr= .live
   ·have:=I.lU.live j ws[j] A (List.getElem?_eq_getElem hjl) hj hl
    rw[this]at hb;cases hb
   ·exact((I.lU.done j ws[j] A (List.getElem?_eq_getElem hjl) hj hl).2.1 b o hb).2.2.2.1 hmu
 have wS:mX γ (ws.set i m') esc=mX γ ws esc:=wQ hi fun _=>⟨fun h=>absurd h aeA,fun h=>absurd h hnr⟩
 refine⟨x',I.turn hi h1 hok (.inl hg') ?_ (by rw[acY];exact hN) hat S.g (fun op hop a' ha hp=>absurd hp (St op hop a' ha).1) (fun _=>ht) (I.U2 hi (by rw[acY,hwa]) (fun b o hb=>⟨We.off b (aaT b (.inr ⟨o,hb⟩)),fun op hop a' ha hl=>aaT b (.inr ⟨o,hb⟩) ((St op hop a' ha).2 b hl)⟩) S.g fun h=>absurd (by rw[hwa]) h) (I.base.Zv We (I.rM _ (.inl I_))) (fun k' M' b e hb=>?_) (fun b hb=>?_) (fun h=>?_)⟩
 ·rw[wS,tX hi,aaS]
  have hpr:AU k₀ aO qs.length ws (qs.length+1+i)=some (k,M):=(iL hi).trans hact
  have hY:=I.Y.UW (n':=qs.length+ws.length+1) (WX:=fun b=>b=γ.Mu) (w':=gJ γ.toGrp a x w) (Y_:=uY d₀ qs (ws.set i m')) (by omega) (Nat.le_refl _) We.size (fun b hb=>We.off b hb) S (fun op hop a' ha b hl=>(St op hop a' ha).2 b hl)
   (fun b y k M o hb hy ho=>by subst hb;have:=I.Y.Ij _ y k M o I_ hy ho;exact⟨dU this,.inl this⟩) fun g=>?_
  ·exact hY.O7 fun g=>by
    by_cases hg:g=qs.length+1+i
    ·subst hg;rw[fA,hpr]
    ·rw[jy hg]
  ·rw[Il hi]
   show Deaf _ g=(if g=qs.length+1+i then m'.2.deaf else uY d₀ qs ws g)
   by_cases hg:g=qs.length+1+i
   ·subst hg
    rw[if_pos rfl,Deaf_own,I.Y.tk.deaf,zy hi,hd,hd']
    exact hdf
   ·rw[if_neg hg,Deaf_other t (Ne.symm hg) _ S.g]
    exact I.Y.tk.deaf g
 ·rw[aaS]at e
  cases e
  exact I.low _ k M b ((iL hi).trans hact) hb
 ·rw[wS]at hb;exact I.rM b (.inr hb)
 ·rcases hms h with h | h
  ·exact .inl h
  ·refine .inr ?_
   simp[wakes,hwk h,hrun]
end
end Go.aS

/- The machine, inside a group: the token is taken, is given back. Conditions: none; over any program. -/
namespace Go.aS
open Go.Conc (crowd parked rcase scase QuitsIn QuitsD Before Knows knows_own touchAt touchAt_of touchAt_old getElem?_append_old getElem?_append_cases lt_size_of_getElem? touch_of hb_po hb_app ofEvents_eq woken Deaf deaf_old g?_old act?_old heard_old lt_of_act? Deaf_own Deaf_other counts_old)
open Go.ConcM (OsLater)
open Go.ConcN (RelBy)
theorem D7{G:Grp}{a:LA}{s:LS}{x:XS}(h:eX G a s):∃s',oP a s x s':=by
 cases a <;>cases s <;>first | exact h.elim | exact⟨_,rfl⟩

section
variable{P:Program}{γ:GP}{gs:Array Goroutine}{w w':World}{t u:Trace}{k₀:Hp}{aO:Nat→Prop}{d₀:Nat}{qs:List (Nat×Nat)}{left:Nat}{p p':MP}{x x':XS}{ws:List (Σ j,WM P γ j)}{tl tl':TL}{esc pJ:List ah}
theorem rP{k:Hp}{l:List Nat}(hmu:γ.mu≠none)(hl:k γ.Mu=some (gK (.hold l))):vG γ k= .hold:=by
 unfold vG
 rw[if_neg hmu,if_neg (fun e=>by rw[hl]at e;injection e with e;cases nH e),if_pos ⟨l,hl⟩]
theorem LJ{k:Hp}(hmu:γ.mu≠none)(hl:k γ.Mu=some (gK .out)):vG γ k= .out:=by
 unfold vG
 rw[if_neg hmu,if_pos hl]
theorem qV{k:Hp}(hl:γ.mu=none∨k γ.Mu=some (gK .fin)∨k γ.Mu=none):vG γ k= .fin:=by
 unfold vG
 by_cases hmu:γ.mu=none
 ·rw[if_pos hmu]
 ·rw[if_neg hmu]
  rcases hl with hl | hl | hl
  ·exact absurd hl hmu
  ·rw[if_neg (fun e=>by rw[hl]at e;injection e with e;cases nH e),if_neg]
   rintro⟨l,e⟩
   rw[hl]at e;injection e with e;cases nH e
  ·rw[if_neg (fun e=>by rw[hl]at e;cases e),if_neg]
   rintro⟨l,e⟩
   rw[hl]at e;cases e
theorem Ja{j:Nat}{m:WM P γ j}(hmu:γ.mu≠none)(hok:m.ok)(h:m.has):m.wa.r= .hold:=by
 cases m with
 | run T=>
  obtain⟨l,hl⟩:=h
  exact rP hmu hl
 | vF E k M hm hk hM hE hh tk T=>
  obtain⟨_,r,o,B,d,b,rfl,h1,h2⟩:=hok
  exact h2 (h1.2 h)
 | xY E k M hm hk hM s hs hE hh tk T=>
  obtain⟨r,o,B,d,b,rfl,h1,h2,_⟩:=hok
  exact h2 (h1.2 h)
 | fin pre T=>exact h.elim
 | I4 n h'=>exact h.elim
theorem dZ.Ph[Base](I:dZ P γ gs w t k₀ aO d₀ qs left p x ws tl esc){i i':Nat}{m m':Σ j,WM P γ j}(hi:ws[i]? =some m)(hi':ws[i']? =some m')(h:m.2.wa.r= .hold)(h':m'.2.wa.r= .hold):i'=i:=by
 rcases Nat.decEq i' i with hne | he
 ·exfalso
  have hm:(ws.map fun m=>m.2.wa)[i]? =some m.2.wa:=by simp[hi]
  have h1:=uI (a':=⟨.fin,.live,false,none,0⟩) hm .hold
  have h2:0<cR ((ws.map fun m=>m.2.wa).set i ⟨.fin,.live,false,none,0⟩) .hold:=by
   have:((ws.map fun m=>m.2.wa).set i ⟨.fin,.live,false,none,0⟩)[i']? =some m'.2.wa:=by rw[List.getElem?_set,if_neg (Ne.symm hne)];simp[hi']
   rw[←h'];exact rJ this
  have h3:=I.N.tV.one
  rw[h,if_pos rfl,if_neg (by simp)]at h1
  omega
 ·exact he
theorem dZ.Zw[Base](I:dZ P γ gs w t k₀ aO d₀ qs left p x ws tl esc)(hmu:γ.mu≠none){i:Nat}{m:Σ j,WM P γ j}(hi:ws[i]? =some m)(h:m.2.wa.r= .hold)(hn:¬m.2.has):∃l c,tl= .free l c:=by
 cases tl with
 | free l c=>exact⟨l,c,rfl⟩
 | «at» i'=>
  obtain⟨⟨m',h1,h2,_⟩,_⟩:=(I.wP hmu).held i' rfl
  have:=I.Ph hi h1 h (Ja hmu (I.wG i' m' h1).2.1 h2)
  subst this
  rw[hi]at h1;cases h1
  exact absurd h2 hn
theorem dZ.TR[Base](I:dZ P γ gs w t k₀ aO d₀ qs left p x ws tl esc)(hmu:γ.mu≠none){i:Nat}{m:Σ j,WM P γ j}(hi:ws[i]? =some m)(hn:m.2.has):tl= .at i∧m.2.holds w t (qs.length+1+i) (fU ws):=by
 cases tl with
 | free l c=>exact absurd hn (((I.wP hmu).free l c rfl).1 i m hi)
 | «at» i'=>
  obtain⟨⟨m',h1,h2,h3⟩,h4⟩:=(I.wP hmu).held i' rfl
  have:=h4 i m hi hn
  subst this
  rw[hi]at h1;cases h1
  exact⟨rfl,h3⟩

theorem dZ.abm[Base](I:dZ P γ gs w t k₀ aO d₀ qs left p x ws tl esc)(hmu:γ.mu≠none){i:Nat}{m m':Σ j,WM P γ j}(hi:ws[i]? =some m)(h1:m'.1=m.1)(hd:m.2.deaf=0){l:List Nat}{c:Obj}(htl:tl= .free l c)
  (I8:γ.tag m.1≠none→(m'.2.been↔m.2.been)) (hhas:m'.2.has) {z:MemOp} (hz:z.act= .mark (.acquire (cell0 γ.Mu))) (hzg:z.g=qs.length+1+i) (hw:w'.heap[γ.C]? =w.heap[γ.C]?)
  (hh:w'.heap[γ.C]? =some c→γ.J l c→l.Perm (fU ws)→Own (t++ #[z]) (qs.length+1+i) γ.C→m'.2.holds w' (t++ #[z]) (qs.length+1+i) (fU ws)):zx γ w' (t++ #[z]) qs.length (ws.set i m') (.at i):=by
 obtain⟨a1,a2,a3,a4,a5⟩:=(I.wP hmu).free l c htl
 have hil:=lt_of_some hi
 have hb:fU (ws.set i m')=fU ws:=vH hi h1 I8
 have hdf:Deaf t z.g=0:=by rw[hzg,I.Y.tk.deaf,zy hi,hd]
 refine⟨fun l c e=>(by cases e),fun i' e=>?_⟩
 cases e
 refine⟨⟨m',by rw[List.getElem?_set,if_pos rfl,if_pos hil],hhas,?_⟩,fun i' y hy hs=>?_⟩
 ·rw[hb]
  refine hh (by rw[hw];exact a2) a3 a4 fun n a ha hl=>?_
  rcases fP ha with⟨_,h2⟩ | ⟨op,_,hm,h2⟩
  ·rcases a5 n a h2 hl with h3 | ⟨q,g,_,_,_,h4,h5,h6⟩
   ·exact(h3 _ (.inr ⟨by omega,by omega⟩)).app _
   ·rw[←hzg]
    exact DY I.Y.tk.norel h4 h5 hz hdf h6
  ·obtain rfl:op=z:=by simpa using hm
   rw[hz]at h2;cases h2
 ·rcases fJ hy with⟨rfl,_,_⟩ | ⟨_,hy⟩
  ·rfl
  ·exact absurd hs (a1 i' y hy)
theorem dZ.aaU[Base](I:dZ P γ gs w t k₀ aO d₀ qs left p x ws tl esc)(hmu:γ.mu≠none){i:Nat}{m m':Σ j,WM P γ j}(hi:ws[i]? =some m)(hd:m.2.deaf=0)(hm:m.2.has)(hhas:¬m'.2.has){l:List Nat}{c:Obj}
  {z:MemOp} (hz:z.act= .mark (.releaseMerge (cell0 γ.Mu))) (hzg:z.g=qs.length+1+i) (hw:w'.heap[γ.C]? =some c) (hJ:γ.J l c) (hp:l.Perm (fU (ws.set i m'))) (ho:Own t (qs.length+1+i) γ.C):zx γ w' (t++ #[z]) qs.length (ws.set i m') (.free l c):=by
 have hil:=lt_of_some hi
 have hdf:Deaf t z.g=0:=by rw[hzg,I.Y.tk.deaf,zy hi,hd]
 have hz':(t++ #[z])[t.size]? =some z:=by simp
 refine⟨fun l' c' e=>?_,fun i' e=>(by cases e)⟩
 cases e
 refine⟨fun i' y hy hs=>?_,hw,hJ,hp,fun n a ha hl=>?_⟩
 ·rcases fJ hy with⟨rfl,rfl,_⟩ | ⟨hne,hy⟩
  ·exact hhas hs
  ·exact hne (I.Ph hi hy (Ja hmu (I.wG i m hi).2.1 hm) (Ja hmu (I.wG i' y hy).2.1 hs))
 ·refine .inr ⟨t.size,z.g,by omega,by rw[List.length_set];omega,by simp[Trace.g?,hz'],by simp[Trace.act?,hz',hz],I.Y.tk.heard (r:=0) hz' (by have:=I.Y.tk.deaf z.g;omega),?_⟩
  rcases fP ha with⟨_,h2⟩ | ⟨op,_,hm,h2⟩
  ·exact ho.before hzg h2 hl
  ·obtain rfl:op=z:=by simpa using hm
   rw[hz]at h2;cases h2
end
end Go.aS

/- The machine, inside a group: a worker acts in Lock, in Unlock. Conditions: none; over any program. -/
namespace Go.aS
open Go.Conc (crowd parked rcase scase QuitsIn QuitsD Before Knows knows_own touchAt touchAt_of touchAt_old getElem?_append_old getElem?_append_cases lt_size_of_getElem? touch_of hb_po hb_app ofEvents_eq woken Deaf deaf_old g?_old act?_old heard_old lt_of_act? Deaf_own Deaf_other counts_old)
open Go.ConcM (OsLater)
open Go.ConcN (RelBy)
section
variable{P:Program}{γ:GP}{gs:Array Goroutine}{w w':World}{t u:Trace}{k₀:Hp}{aO:Nat→Prop}{d₀:Nat}{qs:List (Nat×Nat)}{left:Nat}{p p':MP}{x x':XS}{ws:List (Σ j,WM P γ j)}{tl tl':TL}{esc pJ:List ah}
theorem dZ.muC[Base](I:dZ P γ gs w t k₀ aO d₀ qs left p x ws tl esc)(hmu:γ.mu≠none){i:Nat}{m:Σ j,WM P γ j}(hi:ws[i]? =some m){r:MR}{o:Option Nat}{B d b:Nat}{a:LA}(hcan:eX γ.toGrp a (.mu r o B d b)){fn:FuncId}{pos:String}:
  (gJ γ.toGrp a x w).heap[γ.C]? =w.heap[γ.C]? ∧∀op∈MemOp.ofEvents (qs.length+1+i) fn pos (bT γ.toGrp a x),∀y,op.act.touch? =some y→¬In y.loc γ.C:=by
 have hil:=lt_of_some hi
 have I_:OE γ γ.Mu:=.inr ⟨hmu,rfl⟩
 have hlt:=I.Y.lt _ (.inl I_)
 obtain⟨_,St⟩:=Xc (fn:=fn) (pos:=pos) (Xd (x:=x) hcan) (I.Ri (qs.length+1+i) (.inr ⟨by omega,by omega⟩) _ I_) hlt
 exact⟨(NC (x:=x) (w:=w) hcan).off _ (I.pF hmu).2,fun op hop y hy hl=>(I.pF hmu).2 ((St op hop y hy).2 _ hl)⟩

theorem D8{g:Nat}{fn:FuncId}{pos:String}{m:Mark}:∃z:MemOp,MemOp.ofEvents g fn pos #[qo m]= #[z]∧z.act= .mark m∧z.g=g:=⟨{g,fn,pos,act:=.ofEvent (qo m)},by rw[ofEvents_eq];simp,rfl,rfl⟩

theorem dZ.Rn[Base](I:dZ P γ gs w t k₀ aO d₀ qs left p x ws tl esc){i j:Nat}{E:LS→Goroutine→Prop}{k:Hp}{M:Nat→Prop}{hm:γ.mu≠none}{hk:k γ.Mu=some (gK .out)}{hM:M γ.Mu}{hE:∀s g',E s g'→∃o B,s= .mu .hold o B 0 1}
  {h:∀s g' l c,E s g'→γ.J l c→k γ.C=none→¬M γ.C→yU P γ j g' (hset (hset k γ.Mu (gK (.hold l))) γ.C c) (fun b=>M b∨b=γ.C)} {tk:Option (List Nat×Obj)} {s:LS} {g:Goroutine} {a:LA} {hs:g.status= .running} {hc:eX γ.toGrp a s} {ho wait} {ok:∀w x,uF γ.toGrp w x→rG a s x→¬jk a x→∃g',stepG P false g w= .go g' (gJ γ.toGrp a x w) (bT γ.toGrp a x)∧g'.status= .running} {wk:rH a→mayWake P g=true} {fr}
  {hh:∀w x g' w' es s',uF γ.toGrp w x→rG a s x→¬jk a x→stepG P false g w= .go g' w' es→oP a s x s'→dB P false (aJ γ.toGrp) E s' g'}
  (hi:ws[i]? =some ⟨j,.vF E k M hm hk hM hE h tk (.act (π:=aJ γ.toGrp) a hs hc ho wait ok wk fr hh)⟩) (hnb:¬jk a x) (fn:FuncId) (pos:String):
  ∃(g':Goroutine) (s':LS) (hr:rG a s x) (hst:stepG P false g w= .go g' (gJ γ.toGrp a x w) (bT γ.toGrp a x)) (hn:oP a s x s') (tk':Option (List Nat×Obj)) (x':XS) (tl':TL),
   dZ P γ ((gs.map (woken P g g' (gJ γ.toGrp a x w))).setIfInBounds (qs.length+1+i) g') (gJ γ.toGrp a x w) (t++MemOp.ofEvents (qs.length+1+i) fn pos (bT γ.toGrp a x)) k₀ aO d₀ qs left p x'
    (ws.set i ⟨j,.vF E k M hm hk hM hE h tk' (hh w x g' _ _ s' I.at_ hr hnb hst hn)⟩) tl' esc:=by
 obtain⟨hj,hok,_⟩:=I.wG i _ hi
 simp only at hj
 subst hj
 obtain⟨htag,r,o,B,d,b,rfl,htk,hbr⟩:=hok
 have hmap:(ws.map fun m=>m.2.wa)[j]? =some ⟨r,.live,true,o,B⟩:=by simp[hi,WM.wa]
 have hrel:rG a (.mu r o B d b) x:=I.N.TF hmap rfl
 obtain⟨g',hst,hrun⟩:=ok w x I.at_ hrel hnb
 obtain⟨s',hn⟩:=D7 (x:=x) hc
 obtain⟨⟨Mu,tM⟩,hq⟩:=Option.ne_none_iff_exists'.1 hm
 have hne:γ.Wg≠Mu:=by
  rcases I.geo with h | h
  ·rwa[Grp.Pg hq]at h
  ·exact absurd h hm
 obtain⟨r',o',B',d',b',_,rfl,_,_,_,Zx,hkeep,hacq,hrm,_,_⟩:=(Ry hq hne I.N hmap I.at_ hc hnb hn).out
 have U3:a= .Bh→mayWake P g=true:=fun e=>wk (.inl e)
 have nr:∀{tk s g} {T:dB P false (aJ γ.toGrp) E s g},¬(WM.vF E k M hm hk hM hE h tk T:WM P γ j).runs:=fun h=>h.elim
 have hCC:=I.muC hm hi hc (fn:=fn) (pos:=pos)
 by_cases ha:a= .acq
 ·subst ha
  obtain⟨rfl,rfl,rfl,rfl⟩:=hacq rfl
  have abo:tk=none:=by
   cases tk with
   | none=>rfl
   | some q=>have:=htk.2 (by simp);cases this
  subst abo
  have hnh:∀{s g} {T:dB P false (aJ γ.toGrp) E s g},¬(WM.vF E k M hm hk hM hE h none T:WM P γ j).has:=fun h=>h rfl
  obtain⟨l,c,htl⟩:=I.Zw hm hi rfl hnh
  obtain⟨z,hz1,hz2,hz3⟩:=D8 (g:=qs.length+1+j) (fn:=fn) (pos:=pos) (m:=.acquire (cell0 γ.Mu))
  obtain⟨x',I'⟩:=I.wMu hm hi (m':=⟨j,.vF E k M hm hk hM hE h (some (l,c)) (hh w x g' _ _ _ I.at_ hrel hnb hst hn)⟩) rfl rfl rfl rfl rfl nr nr hc hnb hn (fun r'' o'' B'' d'' b'' e=>by cases e;exact⟨rfl,rfl⟩) ⟨htag,_,_,_,_,_,rfl,by simp,fun _=>Zx (fun _=>rfl) rfl⟩ rfl hrun U3 (tl':=.at j) (fn:=fn) (pos:=pos) (by
    show zx γ _ (t++MemOp.ofEvents (qs.length+1+j) fn pos #[qo (.acquire (cell0 γ.Mu))]) _ _ _
    rw[hz1]
    exact I.abm (m':=⟨j,.vF E k M hm hk hM hE h (some (l,c)) (hh w x g' _ _ _ I.at_ hrel hnb hst hn)⟩) hm hi rfl rfl htl (fun _=>.rfl) (by simp[WM.has]) hz2 hz3 rfl fun e1 e2 e3 e4 l' c' e=>(by cases e;exact⟨e1,e2,e3,e4⟩))
  exact⟨g',_,hrel,hst,hn,some (l,c),x',.at j,I'⟩
 by_cases ha':a= .rm
 ·subst ha'
  obtain⟨rfl,rfl,rfl,rfl⟩:=hrm rfl
  obtain⟨⟨l,c⟩,rfl⟩:=Option.ne_none_iff_exists'.1 (htk.1 rfl)
  have hhas:∀{s g} {T:dB P false (aJ γ.toGrp) E s g},(WM.vF E k M hm hk hM hE h (some (l,c)) T:WM P γ j).has:=by intros;simp[WM.has]
  obtain⟨htl,hho⟩:=I.TR hm hi hhas
  obtain⟨e1,e2,e3,e4⟩:=hho l c rfl
  obtain⟨z,hz1,hz2,hz3⟩:=D8 (g:=qs.length+1+j) (fn:=fn) (pos:=pos) (m:=.releaseMerge (cell0 γ.Mu))
  obtain⟨x',I'⟩:=I.wMu hm hi (m':=⟨j,.vF E k M hm hk hM hE h none (hh w x g' _ _ _ I.at_ hrel hnb hst hn)⟩) rfl rfl rfl rfl rfl nr nr hc hnb hn (fun r'' o'' B'' d'' b'' e=>by cases e;exact⟨rfl,rfl⟩) ⟨htag,_,_,_,_,_,rfl,by simp,fun e=>by cases e⟩ rfl hrun U3 (tl':=.free l c) (fn:=fn) (pos:=pos) (by
    show zx γ _ (t++MemOp.ofEvents (qs.length+1+j) fn pos #[qo (.releaseMerge (cell0 γ.Mu))]) _ _ _
    rw[hz1]
    exact I.aaU (m':=⟨j,.vF E k M hm hk hM hE h none (hh w x g' _ _ _ I.at_ hrel hnb hst hn)⟩) hm hi rfl hhas (fun h=>h rfl) hz2 hz3 e1 e2 (by rw[vH (m':=⟨j,.vF E k M hm hk hM hE h none (hh w x g' _ _ _ I.at_ hrel hnb hst hn)⟩) hi rfl fun _=>.rfl];exact e3) e4)
  exact⟨g',_,hrel,hst,hn,none,x',.free l c,I'⟩
 have hb':=hkeep ha ha'
 subst hb'
 obtain⟨x',I'⟩:=I.wMu hm hi (m':=⟨j,.vF E k M hm hk hM hE h tk (hh w x g' _ _ _ I.at_ hrel hnb hst hn)⟩) rfl rfl rfl rfl rfl nr nr hc hnb hn (fun r'' o'' B'' d'' b'' e=>by cases e;exact⟨rfl,rfl⟩) ⟨htag,_,_,_,_,_,rfl,htk,fun e=>Zx hbr e⟩ rfl hrun U3 (tl':=tl) (fn:=fn) (pos:=pos) (by
   refine I.Ru hm hi rfl .rfl (fun _=>.rfl) (fun _=>hCC) fun _ hh' l c e=>?_
   obtain⟨e1,e2,e3,e4⟩:=hh' l c e
   exact⟨by rw[hCC.1];exact e1,e2,e3,e4.app fun op hop a ha hl=>absurd hl (hCC.2 op hop a ha)⟩)
 exact⟨g',_,hrel,hst,hn,tk,x',tl,I'⟩

theorem dZ.Ro[Base](I:dZ P γ gs w t k₀ aO d₀ qs left p x ws tl esc){i j:Nat}{E:LS→Goroutine→Prop}{k:Hp}{M:Nat→Prop}{hm:γ.mu≠none}{hk:k γ.Mu=some (gK .fin)}{hM:M γ.Mu}{tg:Nat}{ht:γ.tag j=some tg}{hE:∀s g',E s g'→∃o B,s= .mu .fin o B 0 2}
  {h:∀s g',E s g'→yU P γ j g' k M} {tk:Option (List Nat×Obj)} {s:LS} {g:Goroutine} {a:LA} {hs:g.status= .running} {hc:eX γ.toGrp a s} {ho wait} {ok:∀w x,uF γ.toGrp w x→rG a s x→¬jk a x→∃g',stepG P false g w= .go g' (gJ γ.toGrp a x w) (bT γ.toGrp a x)∧g'.status= .running} {wk:rH a→mayWake P g=true} {fr}
  {hh:∀w x g' w' es s',uF γ.toGrp w x→rG a s x→¬jk a x→stepG P false g w= .go g' w' es→oP a s x s'→dB P false (aJ γ.toGrp) E s' g'}
  (hi:ws[i]? =some ⟨j,.xY E k M hm hk hM tg ht hE h tk (.act (π:=aJ γ.toGrp) a hs hc ho wait ok wk fr hh)⟩) (hnb:¬jk a x) (fn:FuncId) (pos:String):
  ∃(g':Goroutine) (s':LS) (hr:rG a s x) (hst:stepG P false g w= .go g' (gJ γ.toGrp a x w) (bT γ.toGrp a x)) (hn:oP a s x s') (tk':Option (List Nat×Obj)) (x':XS) (tl':TL),
   dZ P γ ((gs.map (woken P g g' (gJ γ.toGrp a x w))).setIfInBounds (qs.length+1+i) g') (gJ γ.toGrp a x w) (t++MemOp.ofEvents (qs.length+1+i) fn pos (bT γ.toGrp a x)) k₀ aO d₀ qs left p x'
    (ws.set i ⟨j,.xY E k M hm hk hM tg ht hE h tk' (hh w x g' _ _ s' I.at_ hr hnb hst hn)⟩) tl' esc:=by
 obtain⟨hj,hok,_⟩:=I.wG i _ hi
 simp only at hj
 subst hj
 obtain⟨r,o,B,d,b,rfl,htk,hbr,hb0⟩:=hok
 have hmap:(ws.map fun m=>m.2.wa)[j]? =some ⟨r,.live,true,o,B⟩:=by simp[hi,WM.wa]
 have hrel:rG a (.mu r o B d b) x:=I.N.TF hmap rfl
 obtain⟨g',hst,hrun⟩:=ok w x I.at_ hrel hnb
 obtain⟨s',hn⟩:=D7 (x:=x) hc
 obtain⟨⟨Mu,tM⟩,hq⟩:=Option.ne_none_iff_exists'.1 hm
 have hne:γ.Wg≠Mu:=by
  rcases I.geo with h | h
  ·rwa[Grp.Pg hq]at h
  ·exact absurd h hm
 obtain⟨r',o',B',d',b',_,rfl,_,_,_,Zx,hkeep,hacq,hrm,_,_⟩:=(Ry hq hne I.N hmap I.at_ hc hnb hn).out
 have U3:a= .Bh→mayWake P g=true:=fun e=>wk (.inl e)
 have nr:∀{tk s g} {T:dB P false (aJ γ.toGrp) E s g},¬(WM.xY E k M hm hk hM tg ht hE h tk T:WM P γ j).runs:=fun h=>h.elim
 have hCC:=I.muC hm hi hc (fn:=fn) (pos:=pos)
 by_cases ha:a= .acq
 ·subst ha
  exact absurd (hacq rfl).1 hb0
 by_cases ha':a= .rm
 ·subst ha'
  obtain⟨rfl,rfl,rfl,rfl⟩:=hrm rfl
  obtain⟨⟨l,c⟩,rfl⟩:=Option.ne_none_iff_exists'.1 (htk.1 rfl)
  have hhas:∀{s g} {T:dB P false (aJ γ.toGrp) E s g},(WM.xY E k M hm hk hM tg ht hE h (some (l,c)) T:WM P γ j).has:=by intros;simp[WM.has]
  obtain⟨htl,hho⟩:=I.TR hm hi hhas
  obtain⟨e1,e2,e3,e4⟩:=hho l c rfl
  obtain⟨z,hz1,hz2,hz3⟩:=D8 (g:=qs.length+1+j) (fn:=fn) (pos:=pos) (m:=.releaseMerge (cell0 γ.Mu))
  obtain⟨x',I'⟩:=I.wMu hm hi (m':=⟨j,.xY E k M hm hk hM tg ht hE h none (hh w x g' _ _ _ I.at_ hrel hnb hst hn)⟩) rfl rfl rfl rfl rfl nr nr hc hnb hn (fun r'' o'' B'' d'' b'' e=>by cases e;exact⟨rfl,rfl⟩) ⟨_,_,_,_,_,rfl,by simp,fun e=>(by cases e),by simp⟩ rfl hrun U3 (tl':=.free l c) (fn:=fn) (pos:=pos) (by
    show zx γ _ (t++MemOp.ofEvents (qs.length+1+j) fn pos #[qo (.releaseMerge (cell0 γ.Mu))]) _ _ _
    rw[hz1]
    exact I.aaU (m':=⟨j,.xY E k M hm hk hM tg ht hE h none (hh w x g' _ _ _ I.at_ hrel hnb hst hn)⟩) hm hi rfl hhas (fun h=>h rfl) hz2 hz3 e1 e2 (e3.trans (U1 hi rfl ht (by simp[WM.been]) (by simp[WM.been]))) e4)
  exact⟨g',_,hrel,hst,hn,none,x',.free l c,I'⟩
 have hb':=hkeep ha ha'
 subst hb'
 obtain⟨x',I'⟩:=I.wMu hm hi (m':=⟨j,.xY E k M hm hk hM tg ht hE h tk (hh w x g' _ _ _ I.at_ hrel hnb hst hn)⟩) rfl rfl rfl rfl rfl nr nr hc hnb hn (fun r'' o'' B'' d'' b'' e=>by cases e;exact⟨rfl,rfl⟩) ⟨_,_,_,_,_,rfl,htk,fun e=>Zx hbr e,hb0⟩ rfl hrun U3 (tl':=tl) (fn:=fn) (pos:=pos) (by
   refine I.Ru hm hi rfl .rfl (fun _=>.rfl) (fun _=>hCC) fun _ hh' l c e=>?_
   obtain⟨e1,e2,e3,e4⟩:=hh' l c e
   exact⟨by rw[hCC.1];exact e1,e2,e3,e4.app fun op hop a ha hl=>absurd hl (hCC.2 op hop a ha)⟩)
 exact⟨g',_,hrel,hst,hn,tk,x',tl,I'⟩
end
end Go.aS
