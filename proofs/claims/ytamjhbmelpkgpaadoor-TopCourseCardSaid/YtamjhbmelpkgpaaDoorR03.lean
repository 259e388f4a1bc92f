/- What goroutines list: a trace without races, kept by a goroutine's own steps. Conditions: none; over any program. (And 11 texts more.) -/
import Derived.Test.YtamjhbmelpkgpaaDoorR02
import Derived.Conc.CrowdComm
import Derived.Conc.Know
import Derived.Conc.Quits
import Init
import Derived.Test.YtamjhbmelpkgpaaDoorR01
import Derived.Conc.ClockLaws
import Derived.Conc.CrowdTrace
import Derived.Conc.CrowdCom2
import Derived.Conc.MuSpec
set_option linter.unusedVariables false
set_option linter.unusedSimpArgs false
set_option linter.unusedSectionVars false

/- What goroutines list: a trace without races, kept by a goroutine's own steps. Conditions: none; over any program. -/
namespace Go.aS
open Go.Conc (Before Knows knows_own touchAt touchAt_of touchAt_old noRace_append getElem?_append_old getElem?_append_cases lt_size_of_getElem? touch_of hb_po mem_of_getElem? hb_app ofEvents_eq)
def In(l:Loc)(b:Nat):Prop:=
 match l with
 | .cell a=>a.block=b
 | .obj r=>r=b
 | _=>False

def Own(t:Trace)(g b:Nat):Prop:=∀i a,touchAt t i=some a→In a.loc b→Knows t g i
def Rd(t:Trace)(g b:Nat):Prop:=∀i a,touchAt t i=some a→In a.loc b→a.write=true→Knows t g i
theorem Own.rd{t:Trace}{g b:Nat}(h:Own t g b):Rd t g b:=fun i a h1 h2 _=>h i a h1 h2

structure Zj(t:Trace)(n size:Nat):Prop where
 quiet:∀op∈t,∀m,op.act= .mark m→Fg m=true
 clean:∀said,¬Race said t
 below:∀i a b,touchAt t i=some a→In a.loc b→b<size
 who:∀op∈t,op.g<n

theorem Zj.deaf{t:Trace}{n size:Nat}(h:Zj t n size)(g:Nat):∀i,t.deaf g i=0:=by
 intro i
 induction i with
 | zero=>rfl
 | succ i ih=>
  unfold Trace.deaf
  split
  ·rename_i hh _ _ heq;have:=h.quiet _ (mem_of_getElem? heq) .disable rfl;cases this
  ·rename_i hh _ _ heq;have:=h.quiet _ (mem_of_getElem? heq) .enable rfl;cases this
  ·exact ih
theorem Zj.heard{t:Trace}{n size:Nat}(h:Zj t n size){i:Nat}{op:MemOp}(hi:t[i]? =some op):t.heard i:=⟨op.g,by simp[Trace.g?,hi],h.deaf _ _⟩
theorem Zj.empty{n size:Nat}:Zj #[] n size:=
 ⟨fun op h=>by simp at h,fun said ⟨i,j,hij,⟨a,b,ha,_⟩,_⟩=>by simp[Trace.act?]at ha,fun i a b h=>by simp[touchAt,Trace.act?]at h,fun op h=>by simp at h⟩

theorem fP{t u:Trace}{i:Nat}{a:Touch}(h:touchAt (t++u) i=some a):(i<t.size∧touchAt t i=some a)∨(∃op,(t++u)[i]? =some op∧op∈u∧op.act.touch? =some a):=by
 obtain⟨x,hx,hxa⟩:=touch_of h
 rcases getElem?_append_cases hx with⟨hi,hx'⟩ | ⟨_,hxu⟩
 ·exact .inl ⟨hi,by rw[touchAt_of hx'];exact hxa⟩
 ·exact .inr ⟨x,hx,hxu,hxa⟩

theorem Own.app{t u:Trace}{g b:Nat}(h:Own t g b)(hu:∀op∈u,∀a,op.act.touch? =some a→In a.loc b→op.g=g):Own (t++u) g b:=by
 intro i a ha hl
 rcases fP ha with⟨hi,h1⟩ | ⟨op,ho,hm,h1⟩
 ·exact(h i a h1 hl).app u
 ·have:=knows_own ho
  rwa[hu op hm a h1 hl]at this
theorem Rd.app{t u:Trace}{g b:Nat}(h:Rd t g b)(hu:∀op∈u,∀a,op.act.touch? =some a→In a.loc b→a.write=true→op.g=g):Rd (t++u) g b:=by
 intro i a ha hl hw
 rcases fP ha with⟨hi,h1⟩ | ⟨op,ho,hm,h1⟩
 ·exact(h i a h1 hl hw).app u
 ·have:=knows_own ho
  rwa[hu op hm a h1 hl hw]at this

theorem pz{k:Hp}{M:Nat→Prop}{lo hi:Nat}{e:Event}(h:Bd k M lo hi e){a:Touch}(ht:(MemAct.ofEvent e).touch? =some a):
  ∃b,In a.loc b∧(∀b',In a.loc b'→b'=b)∧a.kind= .plain∧a.write=e.write∧(((k b).isSome=true∧isC (k b)=false∧(a.write=true→M b))∨(lo≤b∧b<hi)):=by
 obtain⟨loc,wr,sync⟩:=e
 unfold Bd at h
 simp only at h
 cases loc with
 | cell ad=>
  simp only at h
  obtain⟨rfl,h⟩:=h
  simp only[MemAct.ofEvent,MemAct.touch?,Option.some.injEq]at ht
  subst ht
  exact⟨ad.block,rfl,fun b' e=>e.symm,rfl,rfl,h⟩
 | obj r=>
  simp only at h
  obtain⟨rfl,h⟩:=h
  simp only[MemAct.ofEvent,MemAct.touch?,Option.some.injEq]at ht
  subst ht
  exact⟨r,rfl,fun b' e=>e.symm,rfl,rfl,h⟩
 | mark m=>
  simp only at h
  cases m <;>simp only[Fg]at h <;>first | (cases h;done) | (simp only[MemAct.ofEvent,MemAct.touch?]at ht;cases ht;done) | (cases wr <;>cases sync <;>simp only[MemAct.ofEvent,MemAct.touch?]at ht <;>cases ht)
 | _=>exact h.elim

theorem IY{k:Hp}{M:Nat→Prop}{lo hi:Nat}{e:Event}(h:Bd k M lo hi e){m:Mark}(hm:MemAct.ofEvent e= .mark m):Fg m=true:=by
 obtain⟨loc,wr,sync⟩:=e
 unfold Bd at h
 simp only at h
 cases loc with
 | mark m'=>
  have e1:(MemAct.ofEvent ⟨.mark m',wr,sync⟩)= .mark m':=by cases wr <;>cases sync <;>rfl
  rw[e1]at hm
  cases hm
  exact h
 | cell ad=>cases wr <;>cases sync <;>cases hm
 | obj r=>cases wr <;>cases sync <;>first | (cases hm;done) | exact absurd h.1 (by simp)
 | _=>exact h.elim

section step
variable{t:Trace}{n j:Nat}{k:Hp}{M:Nat→Prop}{w w':World}{es:Array Event}{fn:FuncId}{pos:String}
theorem mem_ofEvents{op:MemOp}(h:op∈MemOp.ofEvents j fn pos es):∃e∈es,op={g:=j,fn,pos,act:=.ofEvent e}:=by
 rw[ofEvents_eq]at h
 obtain⟨e,he,rfl⟩:=Array.mem_map.1 h
 exact⟨e,he,rfl⟩

theorem Zj.step(h:Zj t n w.heap.size)(hj:j<n)(hk:yF k w)(g:dX k M w w' es)(hO:∀b,M b→isC (k b)=false→Own t j b)(hR:∀b,(k b).isSome=true→isC (k b)=false→Rd t j b):
  Zj (t++MemOp.ofEvents j fn pos es) n w'.heap.size:=by
 refine⟨fun op hop m hm=>?_,fun said=>?_,fun i a b ha hb=>?_,fun op hop=>?_⟩
 ·rcases Array.mem_append.1 hop with h1 | h1
  ·exact h.quiet op h1 m hm
  ·obtain⟨e,he,rfl⟩:=mem_ofEvents h1
   exact IY (g.evs e he) hm
 ·refine noRace_append (h.clean said) (fun op hop=>by obtain⟨e,_,rfl⟩:=mem_ofEvents hop;rfl) fun i a ha op hop b hb hc=>?_
  obtain⟨e,he,rfl⟩:=mem_ofEvents hop
  obtain⟨bl,h1,_,h3,h4,h5⟩:=pz (g.evs e he) hb
  have hin:In a.loc bl:=by rw[hc.1];exact h1
  rcases h5 with⟨h5,h6,h7⟩ | h5
  ·cases hw:b.write with
   | true=>exact hO bl (h7 hw) h6 i a ha hin
   | false=>
    have haw:a.write=true:=by
     rcases hc.2.2.1 with h | h
     ·exact h
     ·rw[hw]at h;cases h
    exact hR bl h5 h6 i a ha hin haw
  ·exact absurd (h.below i a bl ha hin) (by omega)
 ·rcases fP ha with⟨_,h1⟩ | ⟨op,_,hm,h1⟩
  ·exact Nat.lt_of_lt_of_le (h.below i a b h1 hb) g.size
  ·obtain⟨e,he,rfl⟩:=mem_ofEvents hm
   obtain⟨bl,_,h2,_,_,h5⟩:=pz (g.evs e he) h1
   obtain rfl:=h2 b hb
   rcases h5 with⟨h5,_⟩ | h5
   ·obtain⟨o,ho⟩:=Option.isSome_iff_exists.1 h5
    exact Nat.lt_of_lt_of_le (hk.lt ho) g.size
   ·exact h5.2
 ·rcases Array.mem_append.1 hop with h1 | h1
  ·exact h.who op h1
  ·obtain⟨e,_,rfl⟩:=mem_ofEvents h1
   exact hj

theorem OX(b:Nat)(h:isC (snap k w w' b)=false):isC (k b)=false:=by
 cases hc:isC (k b)with
 | false=>rfl
 | true=>simp[snap,hc]at h

theorem UR{i b:Nat}(g:dX k M w w' es)(h:Own t i b)(hb:b<w.heap.size)(hn:(k b).isSome=true→isC (k b)=true):Own (t++MemOp.ofEvents j fn pos es) i b:=by
 refine h.app fun op hop a ha hl=>?_
 obtain⟨e,he,rfl⟩:=mem_ofEvents hop
 obtain⟨bl,_,h2,_,_,h5⟩:=pz (g.evs e he) ha
 obtain rfl:=h2 b hl
 rcases h5 with⟨h5,h6,_⟩ | h5
 ·rw[hn h5]at h6;cases h6
 ·omega
theorem WH{i b:Nat}(g:dX k M w w' es)(h:Rd t i b)(hb:b<w.heap.size)(hn:M b→isC (k b)=true):Rd (t++MemOp.ofEvents j fn pos es) i b:=by
 refine h.app fun op hop a ha hl hw=>?_
 obtain⟨e,he,rfl⟩:=mem_ofEvents hop
 obtain⟨bl,_,h2,_,_,h5⟩:=pz (g.evs e he) ha
 obtain rfl:=h2 b hl
 rcases h5 with⟨h5,h6,h7⟩ | h5
 ·rw[hn (h7 hw)]at h6;cases h6
 ·omega
end step
end Go.aS

/- The mutex, for any number of goroutines that lock once: how each stands to it, what holds of all, and what each move keeps. Conditions: none; no program in sight. -/
namespace Go.aS
set_option linter.unusedVariables false
inductive MR where
 | out | FD | AP | tok | hnd | hold | Nh | rel | wK | fin
 deriving DecidableEq,Repr

structure kQ where
 l:Nat
 w:Nat
 s:Nat
 n:Nat
 ms:Nat

def kQ.st(x:kQ):Nat:=8*x.n+4*x.s+2*x.w+x.l

abbrev Cn:=MR→Nat
def Mv(c:Cn)(r r':MR)(c':Cn):Prop:=∀q,c' q+(if r=q then 1 else 0)=c q+(if r'=q then 1 else 0)

def en(c:Cn)(ms left:Nat):Nat:=7*(c .out+left)+6*c .FD+5*c .AP+6*c .tok+6*c .hnd+5*c .hold+4*c .Nh+3*c .rel+3*c .wK+2*ms

structure jD(x:kQ)(c:Cn):Prop where
 bits:x.l≤1∧x.w≤1∧x.s≤1
 held:x.l=c .hold
 norm:x.s=0→x.w=c .FD+c .tok+c .rel+x.ms∧c .wK=0∧c .hnd=0∧x.n+c .rel+x.ms=c .AP∧(x.l=0→x.w=0→0<x.n→0<c .Nh)
 agd:x.s=1→x.w=0∧c .FD=0∧c .rel=0∧c .hold+c .wK+x.ms+c .tok+c .hnd=1∧x.n=c .AP+c .tok+c .hnd∧(x.l=1→0<x.n)

theorem Mv.all{c c':Cn}{r r':MR}(h:Mv c r r' c'):
  (c' .out+(if r= .out then 1 else 0)=c .out+(if r'= .out then 1 else 0))∧(c' .FD+(if r= .FD then 1 else 0)=c .FD+(if r'= .FD then 1 else 0))∧
  (c' .AP+(if r= .AP then 1 else 0)=c .AP+(if r'= .AP then 1 else 0))∧(c' .tok+(if r= .tok then 1 else 0)=c .tok+(if r'= .tok then 1 else 0))∧
  (c' .hnd+(if r= .hnd then 1 else 0)=c .hnd+(if r'= .hnd then 1 else 0))∧(c' .hold+(if r= .hold then 1 else 0)=c .hold+(if r'= .hold then 1 else 0))∧
  (c' .Nh+(if r= .Nh then 1 else 0)=c .Nh+(if r'= .Nh then 1 else 0))∧(c' .rel+(if r= .rel then 1 else 0)=c .rel+(if r'= .rel then 1 else 0))∧
  (c' .wK+(if r= .wK then 1 else 0)=c .wK+(if r'= .wK then 1 else 0))∧(c' .fin+(if r= .fin then 1 else 0)=c .fin+(if r'= .fin then 1 else 0)):=
 ⟨h _,h _,h _,h _,h _,h _,h _,h _,h _,h _⟩

theorem jD.start{c:Cn}(h:∀r,r≠ .out→r≠ .fin→c r=0):jD ⟨0,0,0,0,0⟩ c:=by
 refine⟨by simp,by simp[h .hold],fun _=>?_,fun h'=>by cases h'⟩
 simp[h .FD,h .tok,h .rel,h .wK,h .hnd,h .AP]

theorem kQ.abe{x y:kQ}(hx:x.l≤1∧x.w≤1∧x.s≤1)(hy:y.l≤1∧y.w≤1∧y.s≤1)(h:x.st=y.st):x.l=y.l∧x.w=y.w∧x.s=y.s∧x.n=y.n:=by
 unfold kQ.st at h;omega

section
variable{x:kQ}{c c':Cn}{left:Nat}
theorem jD.lock(H:jD x c)(hm:Mv c .out .hold c')(hL:x.l=0)(hS:x.s=0):jD {x with l:=1} c'∧en c' x.ms left<en c x.ms left:=by
 have hm:=hm.all
 simp only[reduceCtorEq,if_true,if_false]at hm
 obtain⟨a0,a1,a2,a3⟩:=H
 refine⟨⟨by(try simp only);omega,by(try simp only);omega,fun hs=>?_,fun hs=>?_⟩,by simp only[en];omega⟩ <;>(try simp only at*) <;>omega
theorem jD.acP(H:jD x c)(hm:Mv c .FD .hold c')(hL:x.l=0)(hS:x.s=0):jD {x with l:=1,w:=0} c'∧en c' x.ms left<en c x.ms left:=by
 have hm:=hm.all
 simp only[reduceCtorEq,if_true,if_false]at hm
 obtain⟨a0,a1,a2,a3⟩:=H
 refine⟨⟨by(try simp only);omega,by(try simp only);omega,fun hs=>?_,fun hs=>?_⟩,by simp only[en];omega⟩ <;>(try simp only at*) <;>omega
theorem jD.spin(H:jD x c)(hm:Mv c .out .FD c')(hS:x.s=0)(hW:x.w=0):jD {x with w:=1} c'∧en c' x.ms left<en c x.ms left:=by
 have hm:=hm.all
 simp only[reduceCtorEq,if_true,if_false]at hm
 obtain⟨a0,a1,a2,a3⟩:=H
 refine⟨⟨by(try simp only);omega,by(try simp only);omega,fun hs=>?_,fun hs=>?_⟩,by simp only[en];omega⟩ <;>(try simp only at*) <;>omega
theorem jD.queue(H:jD x c)(hm:Mv c .out .AP c')(hL:x.l=1∨x.s=1):jD {x with n:=x.n+1} c'∧en c' x.ms left<en c x.ms left:=by
 have hm:=hm.all
 simp only[reduceCtorEq,if_true,if_false]at hm
 obtain⟨a0,a1,a2,a3⟩:=H
 refine⟨⟨by(try simp only);omega,by(try simp only);omega,fun hs=>?_,fun hs=>?_⟩,by simp only[en];omega⟩ <;>(try simp only at*) <;>omega
theorem jD.abf(H:jD x c)(hm:Mv c .FD .AP c')(hL:x.l=1):jD {x with n:=x.n+1,w:=0} c'∧en c' x.ms left<en c x.ms left:=by
 have hm:=hm.all
 simp only[reduceCtorEq,if_true,if_false]at hm
 obtain⟨a0,a1,a2,a3⟩:=H
 refine⟨⟨by(try simp only);omega,by(try simp only);omega,fun hs=>?_,fun hs=>?_⟩,by simp only[en];omega⟩ <;>(try simp only at*) <;>omega
theorem jD.abg(H:jD x c)(hm:Mv c .FD .AP c')(hL:x.l=1):jD {x with n:=x.n+1,w:=0,s:=1} c'∧en c' x.ms left<en c x.ms left:=by
 have hm:=hm.all
 simp only[reduceCtorEq,if_true,if_false]at hm
 obtain⟨a0,a1,a2,a3⟩:=H
 have hs0:x.s=0:=by omega
 have a2':=a2 hs0
 clear a2 a3
 refine⟨⟨by(try simp only);omega,by(try simp only);omega,fun hs=>by simp at hs,fun hs=>?_⟩,by simp only[en];omega⟩
 show 0=0∧c' .FD=0∧c' .rel=0∧c' .hold+c' .wK+x.ms+c' .tok+c' .hnd=1∧x.n+1=c' .AP+c' .tok+c' .hnd∧(x.l=1→0<x.n+1)
 refine⟨rfl,?_,?_,?_,?_,?_⟩ <;>omega
theorem jD.take(H:jD x c)(hm:Mv c .AP .tok c')(hms:0<x.ms):jD {x with ms:=x.ms-1} c'∧en c' (x.ms-1) left<en c x.ms left:=by
 have hm:=hm.all
 simp only[reduceCtorEq,if_true,if_false]at hm
 obtain⟨a0,a1,a2,a3⟩:=H
 refine⟨⟨by(try simp only);omega,by(try simp only);omega,fun hs=>?_,fun hs=>?_⟩,by simp only[en];omega⟩ <;>(try simp only at*) <;>omega
theorem jD.woken(H:jD x c)(hm:Mv c .tok .FD c')(hS:x.s=0):jD x c'∧en c' x.ms left≤en c x.ms left:=by
 have hm:=hm.all
 simp only[reduceCtorEq,if_true,if_false]at hm
 obtain⟨a0,a1,a2,a3⟩:=H
 refine⟨⟨by(try simp only);omega,by(try simp only);omega,fun hs=>?_,fun hs=>?_⟩,by simp only[en];omega⟩ <;>(try simp only at*) <;>omega
theorem jD.handed(H:jD x c)(hm:Mv c .tok .hnd c')(hS:x.s=1):jD x c'∧en c' x.ms left≤en c x.ms left:=by
 have hm:=hm.all
 simp only[reduceCtorEq,if_true,if_false]at hm
 obtain⟨a0,a1,a2,a3⟩:=H
 refine⟨⟨by(try simp only);omega,by(try simp only);omega,fun hs=>?_,fun hs=>?_⟩,by simp only[en];omega⟩ <;>(try simp only at*) <;>omega
theorem jD.grab(H:jD x c)(hm:Mv c .hnd .hold c')(hn:2≤x.n):jD {x with l:=1,n:=x.n-1} c'∧en c' x.ms left<en c x.ms left:=by
 have hm:=hm.all
 simp only[reduceCtorEq,if_true,if_false]at hm
 obtain⟨a0,a1,a2,a3⟩:=H
 refine⟨⟨by(try simp only);omega,by(try simp only);omega,fun hs=>?_,fun hs=>?_⟩,by simp only[en];omega⟩ <;>(try simp only at*) <;>omega
theorem jD.acQ(H:jD x c)(hm:Mv c .hnd .hold c'):jD {x with l:=1,n:=x.n-1,s:=0} c'∧en c' x.ms left<en c x.ms left:=by
 have hm:=hm.all
 simp only[reduceCtorEq,if_true,if_false]at hm
 obtain⟨a0,a1,a2,a3⟩:=H
 refine⟨⟨by(try simp only);omega,by(try simp only);omega,fun hs=>?_,fun hs=>?_⟩,by simp only[en];omega⟩ <;>(try simp only at*) <;>omega
theorem jD.Zk(H:jD x c)(hm:Mv c .hold .fin c')(hq:x.s=0)(hn:x.n=0∨x.w=1):jD {x with l:=0} c'∧en c' x.ms left<en c x.ms left:=by
 have hm:=hm.all
 simp only[reduceCtorEq,if_true,if_false]at hm
 obtain⟨a0,a1,a2,a3⟩:=H
 refine⟨⟨by(try simp only);omega,by(try simp only);omega,fun hs=>?_,fun hs=>?_⟩,by simp only[en];omega⟩ <;>(try simp only at*) <;>omega
theorem jD.Zl(H:jD x c)(hm:Mv c .hold .Nh c')(hq:x.s=0):jD {x with l:=0} c'∧en c' x.ms left<en c x.ms left:=by
 have hm:=hm.all
 simp only[reduceCtorEq,if_true,if_false]at hm
 obtain⟨a0,a1,a2,a3⟩:=H
 refine⟨⟨by(try simp only);omega,by(try simp only);omega,fun hs=>?_,fun hs=>?_⟩,by simp only[en];omega⟩ <;>(try simp only at*) <;>omega
theorem jD.Zm(H:jD x c)(hm:Mv c .hold .wK c')(hq:x.s=1):jD {x with l:=0} c'∧en c' x.ms left<en c x.ms left:=by
 have hm:=hm.all
 simp only[reduceCtorEq,if_true,if_false]at hm
 obtain⟨a0,a1,a2,a3⟩:=H
 refine⟨⟨by(try simp only);omega,by(try simp only);omega,fun hs=>?_,fun hs=>?_⟩,by simp only[en];omega⟩ <;>(try simp only at*) <;>omega
theorem jD.leave(H:jD x c)(hm:Mv c .Nh .fin c')(hq:x.n=0∨x.l=1∨x.w=1∨x.s=1):jD x c'∧en c' x.ms left≤en c x.ms left:=by
 have hm:=hm.all
 simp only[reduceCtorEq,if_true,if_false]at hm
 obtain⟨a0,a1,a2,a3⟩:=H
 refine⟨⟨by(try simp only);omega,by(try simp only);omega,fun hs=>?_,fun hs=>?_⟩,by simp only[en];omega⟩ <;>(try simp only at*) <;>omega
theorem jD.wake(H:jD x c)(hm:Mv c .Nh .rel c')(hn:0<x.n)(hL:x.l=0)(hW:x.w=0)(hS:x.s=0):jD {x with n:=x.n-1,w:=1} c'∧en c' x.ms left<en c x.ms left:=by
 have hm:=hm.all
 simp only[reduceCtorEq,if_true,if_false]at hm
 obtain⟨a0,a1,a2,a3⟩:=H
 refine⟨⟨by(try simp only);omega,by(try simp only);omega,fun hs=>?_,fun hs=>?_⟩,by simp only[en];omega⟩ <;>(try simp only at*) <;>omega
theorem jD.post(H:jD x c)(hm:Mv c .rel .fin c'):jD {x with ms:=x.ms+1} c'∧en c' (x.ms+1) left<en c x.ms left:=by
 have hm:=hm.all
 simp only[reduceCtorEq,if_true,if_false]at hm
 obtain⟨a0,a1,a2,a3⟩:=H
 refine⟨⟨by(try simp only);omega,by(try simp only);omega,fun hs=>?_,fun hs=>?_⟩,by simp only[en];omega⟩ <;>(try simp only at*) <;>omega
theorem jD.postS(H:jD x c)(hm:Mv c .wK .fin c'):jD {x with ms:=x.ms+1} c'∧en c' (x.ms+1) left<en c x.ms left:=by
 have hm:=hm.all
 simp only[reduceCtorEq,if_true,if_false]at hm
 obtain⟨a0,a1,a2,a3⟩:=H
 refine⟨⟨by(try simp only);omega,by(try simp only);omega,fun hs=>?_,fun hs=>?_⟩,by simp only[en];omega⟩ <;>(try simp only at*) <;>omega

theorem jD.WI(H:jD x c)(h:0<c .hold):x.l=1:=by obtain⟨a0,a1,a2,a3⟩:=H;omega
theorem jD.aaN(H:jD x c)(h:0<c .FD):x.w=1∧x.s=0:=by obtain⟨a0,a1,a2,a3⟩:=H;omega
theorem jD.acR(H:jD x c)(h:0<c .tok):(x.s=0→x.w=1)∧(x.s=1→x.l=0∧x.w=0∧0<x.n):=by obtain⟨a0,a1,a2,a3⟩:=H;omega
theorem jD.OY(H:jD x c)(h:0<c .hnd):x.s=1∧x.l=0∧x.w=0∧0<x.n:=by obtain⟨a0,a1,a2,a3⟩:=H;omega
theorem jD.one(H:jD x c):c .hold≤1:=by obtain⟨a0,a1,a2,a3⟩:=H;omega
theorem jD.WJ(H:jD x c):x.n≤c .AP+c .tok+c .hnd:=by obtain⟨a0,a1,a2,a3⟩:=H;omega
theorem jD.goes(H:jD x c)(h:0<c .AP)(hms:x.ms=0):0<c .FD+c .tok+c .hnd+c .hold+c .Nh+c .rel+c .wK:=by obtain⟨a0,a1,a2,a3⟩:=H;omega
end
end Go.aS

/- The wait group, for any number of workers and one who waits: how each stands to it, what holds of all, and what each move keeps. Conditions: none; no program in sight. -/
namespace Go.aS
set_option linter.unusedVariables false
inductive WR where
 | live | s1 | s2 | s3 | s4 | gone
 deriving DecidableEq,Repr
inductive MP where
 | add (t:Nat)
 | wt (old:Option Nat) (B:Nat)
 | reg
 | seen
 | out
 deriving DecidableEq,Repr

abbrev Wn:=WR→Nat
def Wv(c:Wn)(r r':WR)(c':Wn):Prop:=∀q,c' q+(if r=q then 1 else 0)=c q+(if r'=q then 1 else 0)

structure DV where
 v:Nat
 w:Nat
 ws:Nat

def fQ(x:DV)(p:MP)(c:Wn):Prop:=
 match p with
 | .add t=>x.v=c .live+c .s1+t∧x.w=0∧x.ws=0∧c .s2+c .s3+c .s4=0
 | .wt old B=>x.v=c .live+c .s1∧x.w=0∧x.ws=0∧c .s2+c .s3+c .s4=0∧(match old with | none=>x.v<B | some o=>o=B∧x.v≤B)
 | .reg=>(0<x.v∧x.v=c .live+c .s1∧x.w=1∧x.ws=0∧c .s2+c .s3+c .s4=0)∨(c .live+c .s1=0∧x.v=0∧x.w=1∧x.ws=0∧c .s2+c .s3=1∧c .s4=0)∨
   (c .live+c .s1=0∧x.v=0∧x.w=0∧x.ws=0∧c .s2+c .s3=0∧c .s4=1)∨(c .live+c .s1=0∧x.v=0∧x.w=0∧x.ws=1∧c .s2+c .s3+c .s4=0)
 | .seen=>c .live+c .s1=0∧x.v=0∧x.w=0∧x.ws=0∧c .s2+c .s3+c .s4=0
 | .out=>c .live+c .s1=0∧x.v=0∧x.w=0∧x.ws=0∧c .s2+c .s3+c .s4=0

theorem Wv.all{c c':Wn}{r r':WR}(h:Wv c r r' c'):
  (c' .live+(if r= .live then 1 else 0)=c .live+(if r'= .live then 1 else 0))∧(c' .s1+(if r= .s1 then 1 else 0)=c .s1+(if r'= .s1 then 1 else 0))∧
  (c' .s2+(if r= .s2 then 1 else 0)=c .s2+(if r'= .s2 then 1 else 0))∧(c' .s3+(if r= .s3 then 1 else 0)=c .s3+(if r'= .s3 then 1 else 0))∧
  (c' .s4+(if r= .s4 then 1 else 0)=c .s4+(if r'= .s4 then 1 else 0))∧(c' .gone+(if r= .gone then 1 else 0)=c .gone+(if r'= .gone then 1 else 0)):=
 ⟨h _,h _,h _,h _,h _,h _⟩

section
variable{x:DV}{c c':Wn}{p:MP}{t B o:Nat}{old:Option Nat}
theorem fQ.told(H:fQ x p c)(hm:Wv c .live .s1 c'):fQ x p c':=by
 have hm:=hm.all
 simp only[reduceCtorEq,if_true,if_false]at hm
 cases p with
 | wt old B=>cases old <;>simp only[fQ]at H⊢<;>omega
 | reg=>simp only[fQ]at H⊢;rcases H with H | H | H | H <;>omega
 | _=>simp only[fQ]at H⊢<;>omega
theorem fQ.sub(H:fQ x p c)(hm:Wv c .s1 .gone c')(hx:¬(x.v=1∧x.w=1)):fQ {x with v:=x.v-1} p c'∧0<x.v∧x.w≤1:=by
 have hm:=hm.all
 simp only[reduceCtorEq,if_true,if_false]at hm
 cases p with
 | wt old B=>cases old <;>simp only[fQ]at H⊢<;>omega
 | reg=>simp only[fQ]at H⊢;rcases H with H | H | H | H <;>omega
 | _=>simp only[fQ]at H⊢<;>omega
theorem fQ.aey(H:fQ x p c)(hm:Wv c .s1 .s2 c')(hx:x.v=1∧x.w=1):fQ {x with v:=x.v-1} p c':=by
 have hm:=hm.all
 simp only[reduceCtorEq,if_true,if_false]at hm
 cases p with
 | wt old B=>cases old <;>simp only[fQ]at H⊢<;>omega
 | reg=>simp only[fQ]at H⊢;rcases H with H | H | H | H <;>omega
 | _=>simp only[fQ]at H⊢<;>omega
theorem fQ.WL(H:fQ x p c)(h:0<c .s1):0<x.v∧x.w≤1:=by
 cases p with
 | wt old B=>cases old <;>simp only[fQ]at H⊢<;>omega
 | reg=>simp only[fQ]at H⊢;rcases H with H | H | H | H <;>omega
 | _=>simp only[fQ]at H⊢<;>omega
theorem fQ.look(H:fQ x p c)(h:0<c .s2):x.v=0∧x.w=1:=by
 cases p with
 | wt old B=>cases old <;>simp only[fQ]at H⊢<;>omega
 | reg=>simp only[fQ]at H⊢;rcases H with H | H | H | H <;>omega
 | _=>simp only[fQ]at H⊢<;>omega
theorem fQ.looked(H:fQ x p c)(hm:Wv c .s2 .s3 c'):fQ x p c':=by
 have hm:=hm.all
 simp only[reduceCtorEq,if_true,if_false]at hm
 cases p with
 | wt old B=>cases old <;>simp only[fQ]at H⊢<;>omega
 | reg=>simp only[fQ]at H⊢;rcases H with H | H | H | H <;>omega
 | _=>simp only[fQ]at H⊢<;>omega
theorem fQ.store(H:fQ x p c)(hm:Wv c .s3 .s4 c'):fQ {x with v:=0,w:=0} p c':=by
 have hm:=hm.all
 simp only[reduceCtorEq,if_true,if_false]at hm
 cases p with
 | wt old B=>cases old <;>simp only[fQ]at H⊢<;>omega
 | reg=>simp only[fQ]at H⊢;rcases H with H | H | H | H <;>first | (exfalso;omega) | (refine .inr (.inr (.inl ⟨?_,?_,?_,?_,?_,?_⟩)) <;>first | trivial | omega)
 | _=>simp only[fQ]at H⊢<;>omega
theorem fQ.post(H:fQ x p c)(hm:Wv c .s4 .gone c'):fQ {x with ws:=x.ws+1} p c'∧x.ws=0:=by
 have hm:=hm.all
 simp only[reduceCtorEq,if_true,if_false]at hm
 cases p with
 | wt old B=>cases old <;>simp only[fQ]at H⊢<;>omega
 | reg=>simp only[fQ]at H⊢;rcases H with H | H | H | H <;>refine⟨?_,?_⟩ <;>omega
 | _=>simp only[fQ]at H⊢<;>omega
theorem fQ.inc(H:fQ x (.add t) c):fQ {x with v:=x.v+1} (.add (t+1)) c∧x.w=0:=by simp only[fQ]at H⊢;refine⟨?_,?_⟩ <;>omega
theorem fQ.spawn(H:fQ x (.add (t+1)) c)(h:∀q,c' q=c q+(if q= .live then 1 else 0)):fQ x (.add t) c':=by
 have h1:=h .live;have h2:=h .s1;have h3:=h .s2;have h4:=h .s3;have h5:=h .s4
 simp only[reduceCtorEq,if_true,if_false]at h1 h2 h3 h4 h5
 simp only[fQ]at*;omega
theorem fQ.begin(H:fQ x (.add 0) c):fQ x (.wt none (x.v+1)) c:=by simp only[fQ]at*;omega
theorem fQ.acS(H:fQ x (.wt old B) c)(h:x.v=0):fQ x .seen c∧x.w=0:=by cases old <;>simp only[fQ]at* <;>omega
theorem fQ.acT(H:fQ x (.wt none B) c):fQ x (.wt (some x.v) x.v) c∧x.v<B∧x.w=0:=by simp only[fQ]at H⊢;refine⟨⟨?_,?_,?_,?_,trivial,Nat.le_refl _⟩,?_,?_⟩ <;>omega
theorem fQ.reg(H:fQ x (.wt (some o) B) c)(h:x.v=o)(h0:0<o):fQ {x with w:=1} .reg c∧x.w=0:=by simp only[fQ]at H⊢;exact⟨.inl ⟨by omega,by omega,trivial,by omega,by omega⟩,by omega⟩
theorem fQ.miss(H:fQ x (.wt (some o) B) c)(h:x.v≠o):fQ x (.wt none o) c∧x.w=0:=by simp only[fQ]at H⊢;refine⟨?_,?_⟩ <;>omega
theorem fQ.take(H:fQ x .reg c)(h:0<x.ws):fQ {x with ws:=x.ws-1} .seen c:=by simp only[fQ]at*;omega
theorem fQ.acq(H:fQ x .seen c):fQ x .out c:=H
theorem fQ.acU(H:fQ x .seen c):x.v=0∧x.w=0∧x.ws=0∧c .live=0∧c .s1=0∧c .s2=0∧c .s3=0∧c .s4=0:=by simp only[fQ]at*;omega
theorem fQ.goes(H:fQ x .reg c)(h:x.ws=0):0<c .live+c .s1+c .s2+c .s3+c .s4:=by simp only[fQ]at*;omega
theorem fQ.small(H:fQ x p c)(ht:∀t,p= .add t→t≤1):x.v≤c .live+c .s1+1∧x.w≤1∧x.ws≤1:=by
 cases p with
 | add t=>have:=ht t rfl;simp only[fQ]at*;omega
 | wt old B=>cases old <;>simp only[fQ]at* <;>omega
 | _=>simp only[fQ]at* <;>omega
end
end Go.aS

/- A walk through a library's code that touches shared cells alone: trees of steps over any protocol, the judgement on code ('L'), its rules. Conditions: none; over any program. -/
namespace Go.aS
structure jM where
 S:Type
 A:Type
 X:Type
 at_:World→X→Prop
 can:A→S→Prop
 rel:A→S→X→Prop
 blk:A→X→Prop
 WO:A→S→X→S→Prop
 wld:A→X→World→World
 evs:A→X→Array Event
 wak:A→Prop
 free:A→Prop

inductive jJ(P:Program)(m:Bool)(π:jM)(E:π.S→Goroutine→Prop):π.S→Goroutine→Prop
 | exit {s:π.S} {g:Goroutine} (hs:g.status= .running) (h:E s g):jJ P m π E s g
 | idle {s:π.S} {g g':Goroutine} (hs:g.status= .running) (e:∀w,stepG P m g w= .go g' w #[]) (h:jJ P m π E s g'):jJ P m π E s g
 | act {s:π.S} {g:Goroutine} (a:π.A) (hs:g.status= .running) (hc:π.can a s) (ho:g.offers=none)
   (wait:∀w x,π.at_ w x→π.rel a s x→π.blk a x→stepG P m g w= .go {g with status:=.blocked} w #[])
   (ok:∀w x,π.at_ w x→π.rel a s x→¬π.blk a x→∃g',stepG P m g w= .go g' (π.wld a x w) (π.evs a x)∧g'.status= .running)
   (wk:π.wak a→mayWake P g=true) (fr:π.free a→∃g' es,(∀e∈es,Event.mute e=true)∧∀w,stepG P m g w= .go g' w es)
   (h:∀w x g' w' es s',π.at_ w x→π.rel a s x→¬π.blk a x→stepG P m g w= .go g' w' es→π.WO a s x s'→jJ P m π E s' g'):jJ P m π E s g

theorem jJ.bind{P:Program}{m:Bool}{π:jM}{E E':π.S→Goroutine→Prop}{s:π.S}{g:Goroutine}(T:jJ P m π E s g)(h:∀s g,g.status= .running→E s g→jJ P m π E' s g):jJ P m π E' s g:=by
 induction T with
 | exit hs he=>exact h _ _ hs he
 | idle hs e _ ih=>exact .idle hs e ih
 | act a hs hc ho wait ok wk fr _ ih=>exact .act a hs hc ho wait ok wk fr ih

structure Lx where
 P:Program
 m:Bool
 π:jM
 fn:FuncId
 n:Nat

abbrev kD(π:jM):=Exit→Env→List Deferred→π.S→Prop

def wL(P:Program)(m:Bool)(π:jM)(E:π.S→Goroutine→Prop)(b:Frame)(k:List Item)(cs:List Frame)(e:Exit)(tmps:Array Value)(ds:List Deferred)(s:π.S):Prop:=
 match e with
 | .normal=>jJ P m π E s (G (bW b tmps ds k) cs)
 | .exit id=>∃k',exitTo id k=some k'∧jJ P m π E s (G (bW b tmps ds k') cs)
 | .goto l=>∃k',gotoIn l k=some k'∧jJ P m π E s (G (bW b tmps ds k') cs)
 | .ret=>∀k',jJ P m π E s (G (bW b tmps ds (.code .ret::k')) cs)
 | _=>False

def L(x:Lx)(c:Code)(Q:kD x.π)(ρ:Env)(ds:List Deferred)(s:x.π.S):Prop:=
 ∀(b:Frame) (k:List Item) (cs:List Frame) (E:x.π.S→Goroutine→Prop) (tmps:Array Value),b.fn=x.fn→b.roundOf=none→b.kind≠ .early→dQ ρ tmps→tmps.size=x.n→
  (∀e ρ' ds' s' aZ,Q e ρ' ds' s'→dQ ρ' aZ→aZ.size=x.n→wL x.P x.m x.π E b k cs e aZ ds' s')→
  jJ x.P x.m x.π E s (G (bW b tmps ds (.code c::k)) cs)
def LO(x:Lx)(ops:Array Oper)(todo:List Nat)(Q:kD x.π)(ρ:Env)(ds:List Deferred)(s:x.π.S):Prop:=
 ∀(b:Frame) (k:List Item) (cs:List Frame) (E:x.π.S→Goroutine→Prop) (tmps:Array Value),b.fn=x.fn→b.roundOf=none→b.kind≠ .early→dQ ρ tmps→tmps.size=x.n→
  (∀e ρ' ds' s' aZ,Q e ρ' ds' s'→dQ ρ' aZ→aZ.size=x.n→wL x.P x.m x.π E b k cs e aZ ds' s')→
  jJ x.P x.m x.π E s (G (bW b tmps ds (.inRegion ops todo::k)) cs)

section rules
variable{x:Lx}{Q Q':kD x.π}{ρ ρ':Env}{ds:List Deferred}{s:x.π.S}
theorem L.mono{c:Code}(H:L x c Q ρ ds s)(hq:∀e ρ ds s,Q e ρ ds s→Q' e ρ ds s):L x c Q' ρ ds s:=
 fun b k cs E tmps h1 h2 h3 h4 h5 hc=>H b k cs E tmps h1 h2 h3 h4 h5 fun e ρ' ds' s' aZ q=>hc e ρ' ds' s' aZ (hq _ _ _ _ q)
theorem L.env{c:Code}(se:Sub ρ' ρ)(H:L x c Q ρ' ds s):L x c Q ρ ds s:=
 fun b k cs E tmps h1 h2 h3 h4 h5 hc=>H b k cs E tmps h1 h2 h3 (h4.sub se) h5 hc
theorem L.skip(H:Q .normal ρ ds s):L x .skip Q ρ ds s:=
 fun b k cs E tmps h1 h2 h3 h4 h5 hc=>.idle rfl (fun _=>MK) (hc .normal ρ ds s tmps H h4 h5)
theorem L.label{l:Nat}(H:Q .normal ρ ds s):L x (.label l) Q ρ ds s:=
 fun b k cs E tmps h1 h2 h3 h4 h5 hc=>.idle rfl (fun _=>OG) (hc .normal ρ ds s tmps H h4 h5)
theorem L.ret(H:Q .ret ρ ds s):L x .ret Q ρ ds s:=
 fun b k cs E tmps h1 h2 h3 h4 h5 hc=>hc .ret ρ ds s tmps H h4 h5 k
theorem L.exit{id:Nat}(H:Q (.exit id) ρ ds s):L x (.exit id) Q ρ ds s:=
 fun b k cs E tmps h1 h2 h3 h4 h5 hc=>by
  obtain⟨k',e,g⟩:=hc (.exit id) ρ ds s tmps H h4 h5
  exact .idle rfl (fun _=>S9 e) g
theorem L.goto{l:Nat}(H:Q (.goto l) ρ ds s):L x (.goto l) Q ρ ds s:=
 fun b k cs E tmps h1 h2 h3 h4 h5 hc=>by
  obtain⟨k',e,g⟩:=hc (.goto l) ρ ds s tmps H h4 h5
  exact .idle rfl (fun _=>S_ e) g

def UU{π:jM}(K:Env→List Deferred→π.S→Prop)(Q:kD π):kD π:=fun e ρ ds s=>match e with | .normal=>K ρ ds s | e=>Q e ρ ds s

theorem wL.push{P:Program}{m:Bool}{π:jM}{E:π.S→Goroutine→Prop}{b:Frame}{it:Item}{k:List Item}{cs:List Frame}{e:Exit}{tmps:Array Value}{ds:List Deferred}{s:π.S}(hx:it.plain=true)(he:e≠ .normal)
  (H:wL P m π E b k cs e tmps ds s):wL P m π E b (it::k) cs e tmps ds s:=by
 cases e with
 | normal=>exact absurd rfl he
 | exit id=>
  have e1:exitTo id (it::k)=exitTo id k:=by cases it <;>simp_all[exitTo,Item.plain]
  simp only[wL,e1]at H⊢
  exact H
 | goto l=>
  have e1:gotoIn l (it::k)=gotoIn l k:=by cases it <;>simp_all[gotoIn,Item.plain]
  simp only[wL,e1]at H⊢
  exact H
 | ret=>exact H
 | panic ch=>exact H
 | outgrown=>exact H

theorem L.seq{y z:Code}(H:L x y (UU (fun ρ' ds' s'=>L x z Q ρ' ds' s') Q) ρ ds s):L x (.seq y z) Q ρ ds s:=by
 intro b k cs E tmps h1 h2 h3 h4 h5 hc
 refine .idle rfl (fun _=>Iz) (H b (.code z::k) cs E tmps h1 h2 h3 h4 h5 fun e ρ' ds' s' aZ q a1 a2=>?_)
 cases e with
 | normal=>exact q b k cs E aZ h1 h2 h3 a1 a2 hc
 | exit id=>exact(hc _ _ _ _ _ q a1 a2).push rfl (by simp)
 | goto l=>exact(hc _ _ _ _ _ q a1 a2).push rfl (by simp)
 | ret=>exact(hc _ _ _ _ _ q a1 a2).push (it:=.code z) rfl (by simp)
 | panic ch=>exact hc _ _ _ _ _ q a1 a2
 | outgrown=>exact hc _ _ _ _ _ q a1 a2

def Nj{π:jM}(id:Nat)(Q:kD π):kD π:=fun e ρ ds s=>match e with | .exit id'=>bif Nat.beq id' id then Q .normal ρ ds s else Q (.exit id') ρ ds s | e=>Q e ρ ds s
theorem L.block{id:Nat}{c:Code}(H:L x c (Nj id Q) ρ ds s):L x (.block id c) Q ρ ds s:=by
 intro b k cs E tmps h1 h2 h3 h4 h5 hc
 refine .idle rfl (fun _=>OH) (H b (.inBlock id::k) cs E tmps h1 h2 h3 h4 h5 fun e ρ' ds' s' aZ q a1 a2=>?_)
 cases e with
 | normal=>exact .idle rfl (fun _=>Iy) (hc .normal _ _ _ _ q a1 a2)
 | exit id'=>
  cases hid:Nat.beq id' id with
  | true=>
   have e:id'=id:=Nat.eq_of_beq_eq_true hid
   simp only[Nj,hid,cond_true]at q
   exact⟨k,by simp[exitTo,e],hc .normal _ _ _ _ q a1 a2⟩
  | false=>
   simp only[Nj,hid,cond_false]at q
   have e1:exitTo id' (.inBlock id::k)=exitTo id' k:=by
    have:id≠id':=fun e=>by subst e;rw[Nat.beq_refl]at hid;cases hid
    simp[exitTo,this]
   have:=hc (.exit id') _ _ _ _ q a1 a2
   simp only[wL,e1]at this⊢
   exact this
 | goto l=>
  have e1:gotoIn l (.inBlock id::k)=gotoIn l k:=by simp[gotoIn]
  have:=hc (.goto l) _ _ _ _ q a1 a2
  simp only[wL,e1]at this⊢
  exact this
 | ret=>exact hc .ret _ _ _ _ q a1 a2
 | panic ch=>exact hc (.panic ch) _ _ _ _ q a1 a2
 | outgrown=>exact hc .outgrown _ _ _ _ q a1 a2

theorem L.loop{σ:Type}{c:Code}(C:σ→Prop)(Ev:σ→Env)(St:σ→x.π.S)(μ:σ→Nat)(s₀:σ)(h₀:C s₀)(he:Sub (Ev s₀) ρ)(hst:St s₀=s)
  (round:∀s,C s→L x c (UU (fun ρ' ds' s''=>ds'=ds∧∃s',C s'∧μ s'<μ s∧Sub (Ev s') ρ'∧St s'=s'') Q) (Ev s) ds (St s)):L x (.loop c) Q ρ ds s:=by
 refine L.env he ?_
 subst hst
 intro b k cs E tmps h1 h2 h3 h4 h5 hc
 refine .idle rfl (fun _=>SY) ?_
 have key:∀N s,μ s=N→C s→∀tmps,dQ (Ev s) tmps→tmps.size=x.n→jJ x.P x.m x.π E (St s) (G (bW b tmps ds (.code c:: .inLoop c::k)) cs):=by
  intro N
  induction N using Nat.strongRecOn with
  | _ N ih=>
   intro s hN hs tmps h4 h5
   refine round s hs b (.inLoop c::k) cs E tmps h1 h2 h3 h4 h5 fun e ρ' ds' s'' aZ q a1 a2=>?_
   cases e with
   | normal=>
    obtain⟨rfl,s',c1,c2,c3,rfl⟩:=q
    exact .idle rfl (fun _=>Lj) (ih (μ s') (hN▸c2) s' rfl c1 aZ (a1.sub c3) a2)
   | exit id=>exact(hc _ _ _ _ _ q a1 a2).push rfl (by simp)
   | goto l=>exact(hc _ _ _ _ _ q a1 a2).push rfl (by simp)
   | ret=>exact(hc _ _ _ _ _ q a1 a2).push (it:=.inLoop c) rfl (by simp)
   | panic ch=>exact hc _ _ _ _ _ q a1 a2
   | outgrown=>exact hc _ _ _ _ _ q a1 a2
 exact key _ s₀ rfl h₀ tmps h4 h5

theorem L.region{id:Nat}{ops:Array Oper}{todo:List Nat}(ht:List.range ops.size=todo)(H:LO x ops todo Q ρ ds s):L x (.region id ops false) Q ρ ds s:=
 fun b k cs E tmps h1 h2 h3 h4 h5 hc=>.idle rfl (fun _=>Ll) (by rw[ht];exact H b k cs E tmps h1 h2 h3 h4 h5 hc)
theorem LO.nil{ops:Array Oper}(H:Q .normal ρ ds s):LO x ops [] Q ρ ds s:=
 fun b k cs E tmps h1 h2 h3 h4 h5 hc=>.idle rfl (fun _=>uq) (hc .normal ρ ds s tmps H h4 h5)
end rules
abbrev sd(m:Bool):Side:=⟨m,fun _=>True⟩

section ops
variable{x:Lx}{Q:kD x.π}{ρ:Env}{ds:List Deferred}{s:x.π.S}{ops:Array Oper}{i:Nat}{rest:List Nat}
theorem LO.split{d:Nat}{v:Bool}(_hv:look ρ d=some (.bool v))(ht:v=true→LO x ops (i::rest) Q ρ ds s)(hf:v=false→LO x ops (i::rest) Q ρ ds s):LO x ops (i::rest) Q ρ ds s:=by
 cases v with
 | true=>exact ht rfl
 | false=>exact hf rfl

def Kn1(ρ:Env)(e:Operand→Value):Prop:=∀y v,ev ρ y=some v→e y=v

def Cv(x:Lx)(ρ:Env)(o:Oper)(v:Value):Prop:=∀e,Kn1 ρ e→∃es,seen x.P x.fn es= #[]∧∀w,(execOp e o).runT x.P w #[]=(.ok (.value v) w,es)

theorem LO.q{o:Oper}{v:Value}(ho:ops[i]? =some o)(hw:want ops ρ o)(hd:d_ o.dst x.n=true)(hdf:∀c,o.op≠ .defer c)(hv:Cv x ρ o v)(H:LO x ops rest Q (put ρ o.dst v) ds s):LO x ops (i::rest) Q ρ ds s:=by
 intro b k cs E tmps h1 h2 h3 h4 h5 hc
 obtain⟨es,hes,hr⟩:=hv (bW b tmps ds (.inRegion ops (i::rest)::k)).eval fun _ _ hx=>h4.ev hx
 have hk':(b.kind==CallKind.early)=false:=by simpa using h3
 obtain⟨p1,p2⟩:=h4.put' h5 hd v
 have hfn:(bW b tmps ds (.inRegion ops (i::rest)::k)).fn=x.fn:=h1
 refine .idle (g':=G ((bW b tmps ds (.inRegion ops (i::rest)::k)).finish v) cs) rfl (fun w=>?_) ?_
 ·have:=AL (P:=x.P) (main:=sd x.m) (ds:=ds) (rest:=rest) (b:=b) (k:=k) (cs:=cs) (w:=w) ho (hw.wanted h4) hdf
  rw[show(sd x.m).b=x.m from rfl]at this
  rw[this,lZ (fr:=bW b tmps ds (.inRegion ops (i::rest)::k)) (cs:=cs) (hr w) hk',hfn,hes]
 ·rw[eY (cs:=cs) ho v]
  exact H b k cs E _ h1 h2 h3 p1 p2 hc

theorem LO.act{o:Oper}(a:x.π.A)(ho:ops[i]? =some o)(hw:want ops ρ o)(hd:d_ o.dst x.n=true)(hdf:∀c,o.op≠ .defer c)(hcan:x.π.can a s)
  (hb:∀e,Kn1 ρ e→∀w y,x.π.at_ w y→x.π.rel a s y→x.π.blk a y→∃es w',(execOp e o).runT x.P w #[]=(.halt .blocked w',es)∧w'=w)
  (ok:∀e,Kn1 ρ e→∀w y,x.π.at_ w y→x.π.rel a s y→¬x.π.blk a y→∃v es,(execOp e o).runT x.P w #[]=(.ok (.value v) (x.π.wld a y w),es)∧seen x.P x.fn es=x.π.evs a y∧∀s',x.π.WO a s y s'→LO x ops rest Q (put ρ o.dst v) ds s')
  (wk:x.π.wak a→∀e,Kn1 ρ e→∃f fn as ts,o.op= .call ⟨.value f,as,ts⟩∧e f= .func (.func fn) #[] #[]∧(x.P.funcs[fn]?).any (·.body.isSome)=false)
  (fr:x.π.free a→∀e,Kn1 ρ e→∃v es,(∀ev∈seen x.P x.fn es,Event.mute ev=true)∧∀w,(execOp e o).runT x.P w #[]=(.ok (.value v) w,es)):LO x ops (i::rest) Q ρ ds s:=by
 intro b k cs E tmps h1 h2 h3 h4 h5 hc
 have hk':(b.kind==CallKind.early)=false:=by simpa using h3
 have hkn:Kn1 ρ (bW b tmps ds (.inRegion ops (i::rest)::k)).eval:=fun _ _ hx=>h4.ev hx
 have hfn:(bW b tmps ds (.inRegion ops (i::rest)::k)).fn=x.fn:=h1
 have hst:∀w,stepG x.P x.m (G (bW b tmps ds (.inRegion ops (i::rest)::k)) cs) w=stepG.apply x.P true (bW b tmps ds (.inRegion ops (i::rest)::k)) cs none (execOp (bW b tmps ds (.inRegion ops (i::rest)::k)).eval o) w:=fun w=>by
  have:=AL (P:=x.P) (main:=sd x.m) (ds:=ds) (rest:=rest) (b:=b) (k:=k) (cs:=cs) (w:=w) ho (hw.wanted h4) hdf
  exact this
 refine .act a rfl hcan rfl (fun w y h6 h7 h8=>?_) (fun w y h6 h7 h8=>?_) (fun hwk=>?_) (fun hfr=>?_) (fun w y g' w' es' s' h6 h7 h8 e hn=>?_)
 ·obtain⟨es,w',hr,rfl⟩:=hb _ hkn w y h6 h7 h8
  rw[hst]
  unfold stepG.apply
  simp only[hr,hk',if_true]
  simp[Conc.seen_none,GStep.after,G,Conc.G]
 ·obtain⟨v,es,hr,hs,_⟩:=ok _ hkn w y h6 h7 h8
  refine⟨G ((bW b tmps ds (.inRegion ops (i::rest)::k)).finish v) cs,?_,rfl⟩
  rw[hst,lZ (fr:=bW b tmps ds (.inRegion ops (i::rest)::k)) (cs:=cs) hr hk',hfn,hs]
 ·obtain⟨f,fn,as,ts,e1,e2,e3⟩:=wk hwk _ hkn
  have e4:(bW b tmps ds (.inRegion ops (i::rest)::k)).eval f= .func (.func fn) #[] #[]:=e2
  simp only[mayWake,G,Conc.G,bW,ho,Option.map_some,e1]
  simp only[bW]at e4
  rw[e4]
  simp[e3]
 ·obtain⟨v,es,hm,hr⟩:=fr hfr _ hkn
  refine⟨G ((bW b tmps ds (.inRegion ops (i::rest)::k)).finish v) cs,seen x.P x.fn es,hm,fun w=>?_⟩
  rw[hst,lZ (fr:=bW b tmps ds (.inRegion ops (i::rest)::k)) (cs:=cs) (hr w) hk',hfn]
 ·obtain⟨v,es,hr,hs,hcont⟩:=ok _ hkn w y h6 h7 h8
  rw[hst,lZ (fr:=bW b tmps ds (.inRegion ops (i::rest)::k)) (cs:=cs) hr hk']at e
  cases e
  obtain⟨p1,p2⟩:=h4.put' h5 hd v
  rw[eY (cs:=cs) ho v]
  exact hcont s' hn b k cs E _ h1 h2 h3 p1 p2 hc

def iK(P:Program)(m:Bool)(π:jM)(f:FuncId)(args:Array Value)(s:π.S)(R:Value→π.S→Prop):Prop:=
 ∀(c:Frame) (cs:List Frame) (E:π.S→Goroutine→Prop),(∀v s',R v s'→jJ P m π E s' (G (c.finish v) cs))→jJ P m π E s (G (Frame.enter P f args .normal) (c::cs))
theorem LO.call{o:Oper}{f:FuncId}{args:Array Value}(ho:ops[i]? =some o)(hw:want ops ρ o)(hd:d_ o.dst x.n=true)(hdf:∀c,o.op≠ .defer c)
  (hv:∀e,Kn1 ρ e→∃es,seen x.P x.fn es= #[]∧∀w,(execOp e o).runT x.P w #[]=(.ok (.enter f args) w,es))
  (H:iK x.P x.m x.π f args s fun v s'=>LO x ops rest Q (put ρ o.dst v) ds s'):LO x ops (i::rest) Q ρ ds s:=by
 intro b k cs E tmps h1 h2 h3 h4 h5 hc
 obtain⟨es,hes,hr⟩:=hv (bW b tmps ds (.inRegion ops (i::rest)::k)).eval fun _ _ hx=>h4.ev hx
 have hk':(b.kind==CallKind.early)=false:=by simpa using h3
 have hfn:(bW b tmps ds (.inRegion ops (i::rest)::k)).fn=x.fn:=h1
 refine .idle (g':=G (Frame.enter x.P f args .normal) (bW b tmps ds (.inRegion ops (i::rest)::k)::cs)) rfl (fun w=>?_) ?_
 ·have:=AL (P:=x.P) (main:=sd x.m) (ds:=ds) (rest:=rest) (b:=b) (k:=k) (cs:=cs) (w:=w) ho (hw.wanted h4) hdf
  rw[show(sd x.m).b=x.m from rfl]at this
  rw[this,yY (fr:=bW b tmps ds (.inRegion ops (i::rest)::k)) (cs:=cs) (hr w) hk' ⟨_,_,_,rfl⟩,hfn,hes]
 ·refine H _ cs E fun v s' r=>?_
  obtain⟨p1,p2⟩:=h4.put' h5 hd v
  rw[eY (cs:=cs) ho v]
  exact r b k cs E _ h1 h2 h3 p1 p2 hc
end ops
end Go.aS

/- Walks through a library's code: how a function is left; functions by their bodies. Conditions: none; over any program. -/
namespace Go.aS
def Tv(c:Frame):Prop:=∀r o,c.mode= .panicking (r::o)→r.recovered=false

def OZ(P:Program)(m:Bool)(π:jM)(fn:FuncId):List Deferred→π.S→(π.S→Prop)→Prop
 | [],s,K=>K s
 | d::ds,s,K=>(∀r,d.target≠ .collected r)∧
  (
   (∃a:π.A,π.can a s∧(∀y,¬π.blk a y)∧¬π.wak a∧(∀w y,π.at_ w y→π.rel a s y→∃v es,(invoke d.target d.args).runT P w #[]=(.ok (.value v) (π.wld a y w),es)∧seen P fn es=π.evs a y)∧(π.free a→∃v es,(∀ev∈seen P fn es,Event.mute ev=true)∧∀w,(invoke d.target d.args).runT P w #[]=(.ok (.value v) w,es))∧∀y s',π.rel a s y→π.WO a s y s'→OZ P m π fn ds s' K)∨
   (
    ∃g args es,(∀w,(invoke d.target d.args).runT P w #[]=(.ok (.enter g args) w,es))∧seen P fn es= #[]∧
    ∀(c:Frame) (cs:List Frame) (E:π.S→Goroutine→Prop),Tv c→(∀s',OZ P m π fn ds s' K→jJ P m π E s' (G c cs))→jJ P m π E s (G (Frame.enter P g args .deferred) (c::cs))))

def Y9(P:Program)(m:Bool)(π:jM)(f:FuncId)(args:Array Value)(s:π.S)(R:π.S→Prop):Prop:=
 ∀(c:Frame) (cs:List Frame) (E:π.S→Goroutine→Prop),Tv c→(∀s',R s'→jJ P m π E s' (G c cs))→jJ P m π E s (G (Frame.enter P f args .deferred) (c::cs))

def Nk(P:Program)(m:Bool)(π:jM)(f:FuncId)(fn:Func)(R:Value→π.S→Prop):kD π:=fun e ρ ds s=>
 (e= .ret∨e= .normal)∧OZ P m π f ds s fun s'=>∃v,(∀tmps,dQ ρ tmps→results fn tmps= .pure v)∧R v s'

section
variable{P:Program}{m:Bool}{π:jM}{b:Frame}{t:Array Value}{cs:List Frame}{w:World}
theorem WQ{fn:Func}{c:Frame}{v:Value}{todo:List Item}(hf:P.funcs[b.fn]? =some fn)(r:results fn t= .pure v)(hk:b.kind= .deferred)(hm:Tv c):
  stepG P m (G (iC b t [] todo) (c::cs)) w= .go (G c cs) w #[]:=by
 have e:stepG P m (G (iC b t [] todo) (c::cs)) w=unwind P m (iC b t [] todo) (c::cs) none w:=rfl
 rw[e]
 unfold unwind
 have h1:(iC b t [] todo).defers=[]:=rfl
 have h2:(iC b t [] todo).mode= .returning:=rfl
 have h3:(iC b t [] todo).fn=b.fn:=rfl
 have h4:(iC b t [] todo).tmps=t:=rfl
 have h5:(iC b t [] todo).kind= .deferred:=hk
 simp only[h1,h2,h3,h4,hf,r,doReturn,h5,Sem.runT]
 rw[Conc.seen_none]
 split
 ·rename_i hh
  have:=hm _ _ hh
  cases this
 ·rfl
theorem WS{fn:Func}{c:Frame}{v:Value}{todo:List Item}(hf:P.funcs[b.fn]? =some fn)(r:results fn t= .pure v)(hk:b.kind= .normal):stepG P m (G (iC b t [] todo) (c::cs)) w= .go (G (c.finish v) cs) w #[]:=by
 have:=Td (P:=P) (main:=sd m) (w:=w) (w':=w) (es:= #[]) (c:=c) (cs:=cs) (todo:=todo) (v:=v) hf (by rw[r];rfl) hk
 rw[Conc.seen_none]at this
 exact this

theorem AQ{d:Deferred}{ds:List Deferred}{todo:List Item}(hd:∀r,d.target≠ .collected r):stepG P m (G (iC b t (d::ds) todo) cs) w=callDeferred P (iC b t ds todo) cs none d w:=by
 have e:stepG P m (G (iC b t (d::ds) todo) cs) w=unwind P m (iC b t (d::ds) todo) cs none w:=rfl
 rw[e]
 unfold unwind
 have h1:(iC b t (d::ds) todo).defers=d::ds:=rfl
 rw[h1]
 split
 ·rename_i r ds' heq
  cases heq
  exact absurd rfl (hd _)
 ·rename_i heq;cases heq;rfl
 ·rename_i heq;cases heq

theorem TA{fn:Func}{ρ:Env}{R:Value→π.S→Prop}{E:π.S→Goroutine→Prop}(hf:P.funcs[b.fn]? =some fn):∀{ds:List Deferred} {s:π.S} (todo:List Item),dQ ρ t→
  OZ P m π b.fn ds s (fun s'=>∃v,(∀tmps,dQ ρ tmps→results fn tmps= .pure v)∧R v s')→
  (∀v s',R v s'→∃c cs',cs=c::cs'∧((b.kind= .normal∧jJ P m π E s' (G (c.finish v) cs'))∨(b.kind= .deferred∧Tv c∧jJ P m π E s' (G c cs'))))→
  jJ P m π E s (G (iC b t ds todo) cs):=by
 intro ds
 induction ds with
 | nil=>
  intro s todo he hu hc
  obtain⟨v,h1,h2⟩:=hu
  obtain⟨c,cs',rfl,⟨hk,g⟩ | ⟨hk,hm,g⟩⟩:=hc v s h2
  ·exact .idle rfl (fun w=>WS hf (h1 t he) hk) g
  ·exact .idle rfl (fun w=>WQ hf (h1 t he) hk hm) g
 | cons d ds ih=>
  intro s todo he hu hc
  obtain⟨hd,⟨a,h1,h2,h3,h4,hfr,h5⟩ | ⟨g,args,es,h1,h2,h3⟩⟩:=hu
  ·have go:∀w y,π.at_ w y→π.rel a s y→stepG P m (G (iC b t (d::ds) todo) cs) w= .go (G (iC b t ds todo) cs) (π.wld a y w) (π.evs a y):=by
    intro w y h6 h7
    obtain⟨v,es,hr,hs⟩:=h4 w y h6 h7
    rw[AQ hd]
    unfold callDeferred
    have e2:(iC b t ds todo).mode= .returning:=rfl
    have e3:(iC b t ds todo).fn=b.fn:=rfl
    simp only[hr,e2,e3,hs,Bool.and_false,if_false,Bool.false_eq_true]
    rfl
   refine .act a rfl h1 rfl (fun w y _ _ h=>absurd h (h2 y)) (fun w y h6 h7 _=>⟨_,go w y h6 h7,rfl⟩) (fun h=>absurd h h3) (fun h=>?_) (fun w y g' w' es' s' h6 h7 _ e hn=>?_)
   ·obtain⟨v,es,hm,hr⟩:=hfr h
    refine⟨G (iC b t ds todo) cs,seen P b.fn es,hm,fun w=>?_⟩
    rw[AQ hd]
    unfold callDeferred
    have e2:(iC b t ds todo).mode= .returning:=rfl
    have e3:(iC b t ds todo).fn=b.fn:=rfl
    simp only[hr,e2,e3,Bool.and_false,if_false,Bool.false_eq_true]
    rfl
   rw[go w y h6 h7]at e
   cases e
   exact ih todo he (h5 y s' h7 hn) hc
  ·refine .idle (g':=G (Frame.enter P g args .deferred) (iC b t ds todo::cs)) rfl (fun w=>?_) ?_
   ·rw[AQ hd]
    unfold callDeferred
    have e2:(iC b t ds todo).mode= .returning:=rfl
    have e3:(iC b t ds todo).fn=b.fn:=rfl
    simp only[h1 w,e2,e3,h2,Bool.and_false,if_false,Bool.false_eq_true]
    rfl
   ·exact h3 (iC b t ds todo) cs E (fun r o h=>by cases h) fun s' q=>ih todo he q hc
end
theorem iK.aG{P:Program}{m:Bool}{π:jM}{f:FuncId}{fn:Func}{c:Code}{args:Array Value}{s:π.S}{R:Value→π.S→Prop}(hf:P.funcs[f]? =some fn)(hb:fn.body=some c)(ha:args.size≤fn.ntmps)(ρ:Env)(hρ:G9 ρ args)
  (H:L ⟨P,m,π,f,fn.ntmps⟩ c (Nk P m π f fn R) ρ [] s):iK P m π f args s R:=by
 intro c' cs E hc
 have e:Frame.enter P f args .normal=bW {(default:Frame)with fn:=f,kind:=.normal} (args++Array.replicate (fn.ntmps-args.size) undef) [] [.code c]:=by
  simp[Frame.enter,bW,hf,hb];rfl
 rw[e]
 refine H _ [] (c'::cs) E _ rfl rfl (by simp) hρ.ok (by simp;omega) fun ex ρ' ds' s' aZ q a1 a2=>?_
 obtain⟨hex,hu⟩:=q
 have go:∀todo,jJ P m π E s' (G (iC {(default:Frame)with fn:=f,kind:=.normal} aZ ds' todo) (c'::cs)):=fun todo=>
  TA (ρ:=ρ') (fn:=fn) hf todo a1 hu (fun v s'' r=>⟨c',cs,rfl,.inl ⟨rfl,hc v s'' r⟩⟩)
 rcases hex with rfl | rfl
 ·exact fun k'=>.idle rfl (fun _=>Fj (main:=sd m) rfl) (go _)
 ·exact .idle rfl (fun _=>Fp (main:=sd m) rfl) (go _)
theorem Y9.aG{P:Program}{m:Bool}{π:jM}{f:FuncId}{fn:Func}{c:Code}{args:Array Value}{s:π.S}{R:π.S→Prop}(hf:P.funcs[f]? =some fn)(hb:fn.body=some c)(ha:args.size≤fn.ntmps)(ρ:Env)(hρ:G9 ρ args)
  (H:L ⟨P,m,π,f,fn.ntmps⟩ c (Nk P m π f fn fun _ s=>R s) ρ [] s):Y9 P m π f args s R:=by
 intro c' cs E hm hc
 have e:Frame.enter P f args .deferred=bW {(default:Frame)with fn:=f,kind:=.deferred} (args++Array.replicate (fn.ntmps-args.size) undef) [] [.code c]:=by
  simp[Frame.enter,bW,hf,hb];rfl
 rw[e]
 refine H _ [] (c'::cs) E _ rfl rfl (by simp) hρ.ok (by simp;omega) fun ex ρ' ds' s' aZ q a1 a2=>?_
 obtain⟨hex,hu⟩:=q
 have go:∀todo,jJ P m π E s' (G (iC {(default:Frame)with fn:=f,kind:=.deferred} aZ ds' todo) (c'::cs)):=fun todo=>
  TA (ρ:=ρ') (fn:=fn) hf todo a1 hu (fun v s'' r=>⟨c',cs,rfl,.inr ⟨rfl,hm,hc s'' r⟩⟩)
 rcases hex with rfl | rfl
 ·exact fun k'=>.idle rfl (fun _=>Fj (main:=sd m) rfl) (go _)
 ·exact .idle rfl (fun _=>Fp (main:=sd m) rfl) (go _)
end Go.aS

/- The protocol of a mutex and a wait group: what each act may do. Conditions: none; over any program. -/
namespace Go.aS
structure Grp where
 Wg:Nat
 tW:TypeId
 mu:Option (Nat×TypeId)

def cell0(b:Nat):Addr:=⟨b,0,none⟩
def cell1(b:Nat):Addr:=⟨b,1,none⟩
def BQ(t:TypeId)(x:kQ):Obj:=.cells #[.int .i32 (x.st:Int),.int .u32 (x.ms:Int)] t (0,0)
def DV.st(x:DV):Nat:=x.v*4294967296+x.w
def zo(t:TypeId)(x:DV):Obj:=.cells #[.int .u64 (x.st:Int),.int .u32 (x.ws:Int)] t (0,0)
def Grp.Mu(G:Grp):Nat:=match G.mu with | some p=>p.1 | none=>0

structure XS where
 m:kQ
 g:DV
 E:Nat

def kQ.set(x:kQ)(n:Nat):kQ:=⟨n % 2,n / 2 % 2,n / 4 % 2,n / 8,x.ms⟩
theorem kQ.wM(x:kQ)(n:Nat):(x.set n).st=n:=by unfold kQ.set kQ.st;simp only;omega
inductive LS where
 | mu (r:MR) (old:Option Nat) (B d ph:Nat)
 | wg (p:MP) (d:Nat)
 | dn (r:WR) (d:Nat)

inductive LA where
 | Fa | en | ask | clk | non
 | load | cas (o n:Nat) (r':MR) | Kr | uz (keep:Bool) | Hf | Bh | acq | rm
 | Rh | O0 | LG | IZ | O1 (o:Nat) | FH | DW | LH | Hg
 | Nl | wsub | BR | rF | tN

def qo(m:Mark):Event:=⟨.mark m,false,true⟩
def uD(a:Addr):Event:=⟨.cell a,false,true⟩
def yT(a:Addr):Event:=⟨.cell a,true,true⟩
def qy(a:Addr):Array Event:= #[qo .disable,uD a,yT a,qo .enable]

def TB(r r':MR)(y:kQ)(n:Nat):Prop:=
 match r,r' with
 | .out,.hold=>y.l=0∧y.s=0∧n=y.st+1
 | .FD,.hold=>y.l=0∧y.s=0∧y.w=1∧n+1=y.st
 | .out,.FD=>y.s=0∧y.w=0∧n=y.st+2
 | .out,.AP=>(y.l=1∨y.s=1)∧n=y.st+8
 | .FD,.AP=>y.l=1∧y.s=0∧y.w=1∧(n=y.st+6∨n=y.st+10)
 | .Nh,.rel=>0<y.n∧y.l=0∧y.w=0∧y.s=0∧n+6=y.st
 | _,_=>False

def eX(G:Grp)(a:LA)(s:LS):Prop:=
 match a,s with
 | .Fa,.mu _ _ _ _ _=>True
 | .Fa,.wg p _=>(∀o B,p≠ .wt o B)∧p≠ .out
 | .Fa,.dn _ _=>True
 | .en,.mu _ _ _ d _=>0<d
 | .en,.wg _ d=>0<d
 | .en,.dn _ d=>0<d
 | .ask,.mu .. =>True
 | .non,.mu .. =>True
 | .non,.wg p _=>p≠ .out
 | .non,.dn r _=>r= .live
 | .clk,.mu .. =>True
 | .load,.mu _ _ _ _ _=>G.mu≠none
 | .cas o n r',.mu r old _ d ph=>G.mu≠none∧0<d∧ph≠1∧(∃y:kQ,(y.l≤1∧y.w≤1∧y.s≤1)∧o=y.st∧TB r r' y n)∧(old=some o∨(r= .out∧r'= .hold∧old=none))
 | .Kr,.mu r _ _ d ph=>G.mu≠none∧0<d∧ph≠1∧r= .hold
 | .uz keep,.mu r old _ d ph=>G.mu≠none∧0<d∧ph≠1∧r= .hnd∧∃o,old=some o∧(keep=true→2≤o / 8)
 | .Hf,.mu r old _ d ph=>G.mu≠none∧0<d∧ph≠1∧r= .AP∧old=none
 | .Bh,.mu r _ _ d ph=>G.mu≠none∧0<d∧ph≠1∧(r= .rel∨r= .wK)
 | .acq,.mu r _ _ d ph=>G.mu≠none∧d=0∧ph=0∧r= .hold
 | .rm,.mu r _ _ d ph=>G.mu≠none∧d=0∧ph=1∧r= .hold
 | .Rh,.wg p _=>p= .add 0
 | .O0,.wg p d=>0<d∧p= .add 0
 | .LG,.wg p _=>∃t,p= .add t
 | .IZ,.wg p d=>0<d∧∃B,p= .wt none B
 | .O1 o,.wg p d=>0<d∧0<o∧∃B,p= .wt (some o) B
 | .FH,.wg p _=>p= .reg
 | .DW,.wg p d=>0<d∧p= .reg
 | .LH,.wg p d=>0<d∧p= .seen
 | .Hg,.wg p d=>d=0∧p= .seen
 | .Nl,.dn r d=>r= .live∧d=0
 | .wsub,.dn r d=>0<d∧r= .s1
 | .BR,.dn r d=>0<d∧r= .s2
 | .rF,.dn r d=>0<d∧r= .s3
 | .tN,.dn r d=>0<d∧r= .s4
 | _,_=>False

def MF(r:MR)(old:Option Nat)(B:Nat)(x:XS):Prop:=
 (x.m.l≤1∧x.m.w≤1∧x.m.s≤1)∧x.m.n≤64∧x.m.ms≤64∧(∀o,old=some o→x.E≤B∧(x.m.st≠o→x.E<B))∧(old=none→x.E<B)∧(r= .hold→x.m.l=1)∧(r= .FD→x.m.w=1∧x.m.s=0)∧
 (r= .tok→(x.m.s=0→x.m.w=1)∧(x.m.s=1→x.m.l=0∧x.m.w=0∧0<x.m.n))∧(r= .hnd→x.m.s=1∧x.m.l=0∧x.m.w=0∧0<x.m.n∧∀o,old=some o→o / 8≤x.m.n)
def WF(p:MP)(x:XS):Prop:=
 x.g.v≤64∧x.g.w≤1∧x.g.ws≤1∧
 match p with
 | .add t=>x.g.w=0∧x.g.ws=0∧t≤x.g.v
 | .wt old B=>x.g.w=0∧x.g.ws=0∧(old=none→x.g.v<B)∧(∀o,old=some o→o=B∧x.g.v≤B)
 | .reg=>0<x.g.ws→x.g.v=0∧x.g.w=0∧x.g.ws=1
 | .seen=>x.g.v=0∧x.g.w=0∧x.g.ws=0
 | .out=>True
def DF(r:WR)(x:XS):Prop:=
 x.g.v≤64∧x.g.w≤1∧x.g.ws≤1∧
 match r with
 | .s1=>0<x.g.v
 | .s2=>x.g.v=0∧x.g.w=1
 | .s3=>True
 | .s4=>x.g.ws=0
 | _=>True
def rG(_:LA)(s:LS)(x:XS):Prop:=
 match s with
 | .mu r old B _ _=>MF r old B x
 | .wg p _=>WF p x
 | .dn r _=>DF r x

def jk(a:LA)(x:XS):Prop:=
 match a with
 | .Hf=>x.m.ms=0
 | .DW=>x.g.ws=0
 | _=>False

def Hl(x:kQ):MR:=if x.s=1 then .wK else if x.n=0∨x.w=1 then .fin else .Nh
def kE(r:MR)(x:kQ):MR:=match r with
 | .tok=>if x.s=1 then .hnd else .FD
 | .Nh=>if x.n=0∨x.l=1∨x.w=1∨x.s=1 then .fin else .Nh
 | r=>r
def oP(a:LA)(s:LS)(x:XS)(s':LS):Prop:=
 match a,s with
 | .Fa,.mu r o B d ph=>s'= .mu r o B (d+1) ph
 | .Fa,.wg p d=>s'= .wg p (d+1)
 | .Fa,.dn r d=>s'= .dn r (d+1)
 | .en,.mu r o B d ph=>s'= .mu r o B (d-1) ph
 | .en,.wg p d=>s'= .wg p (d-1)
 | .en,.dn r d=>s'= .dn r (d-1)
 | .load,.mu r _ _ d ph=>s'= .mu (kE r x.m) (some x.m.st) x.E d ph
 | .cas o _ r',.mu r _ B d ph=>s'=if x.m.st=o then .mu r' none B d ph else .mu r none B d ph
 | .Kr,.mu _ _ _ d ph=>s'= .mu (Hl x.m) (some (x.m.st-1)) x.E d ph
 | .uz _,.mu _ _ _ d ph=>s'= .mu .hold none x.E d ph
 | .Hf,.mu _ _ B d ph=>s'= .mu .tok none B d ph
 | .Bh,.mu _ _ _ d ph=>s'= .mu .fin none x.E d ph
 | .acq,.mu r o B d _=>s'= .mu r o B d 1
 | .rm,.mu r o B d _=>s'= .mu r o B d 2
 | .Rh,.wg _ d=>s'= .wg (.wt none (x.g.v+1)) (d+1)
 | .O0,.wg _ d=>s'= .wg (.add 1) d
 | .IZ,.wg _ d=>s'=if x.g.v=0 then .wg .seen d else .wg (.wt (some x.g.v) x.g.v) d
 | .O1 o,.wg _ d=>s'=if x.g.v=o then .wg .reg d else .wg (.wt none o) d
 | .DW,.wg _ d=>s'= .wg .seen d
 | .Hg,.wg _ d=>s'= .wg .out d
 | .Nl,.dn _ d=>s'= .dn .s1 d
 | .wsub,.dn _ d=>s'=if x.g.v=1∧x.g.w=1 then .dn .s2 d else .dn .gone d
 | .BR,.dn _ d=>s'= .dn .s3 d
 | .rF,.dn _ d=>s'= .dn .s4 d
 | .tN,.dn _ d=>s'= .dn .gone d
 | _,s=>s'=s

def gJ(G:Grp)(a:LA)(x:XS)(w:World):World:=
 match a with
 | .ask=>w.asked
 | .clk=>w.later
 | .cas o n _=>if x.m.st=o then w.setCell (cell0 G.Mu) (.int .i32 (n:Int))else w
 | .Kr=>w.setCell (cell0 G.Mu) (.int .i32 ((x.m.st-1:Nat):Int))
 | .uz keep=>w.setCell (cell0 G.Mu) (.int .i32 ((x.m.st- (if keep then 7 else 11):Nat):Int))
 | .Hf=>w.setCell (cell1 G.Mu) (.int .u32 ((x.m.ms-1:Nat):Int))
 | .Bh=>w.setCell (cell1 G.Mu) (.int .u32 ((x.m.ms+1:Nat):Int))
 | .O0=>w.setCell (cell0 G.Wg) (.int .u64 ((x.g.st+4294967296:Nat):Int))
 | .O1 o=>if x.g.v=o then w.setCell (cell0 G.Wg) (.int .u64 ((x.g.st+1:Nat):Int))else w
 | .DW=>w.setCell (cell1 G.Wg) (.int .u32 ((x.g.ws-1:Nat):Int))
 | .wsub=>w.setCell (cell0 G.Wg) (.int .u64 ((x.g.st-4294967296:Nat):Int))
 | .rF=>w.setCell (cell0 G.Wg) (.int .u64 0)
 | .tN=>w.setCell (cell1 G.Wg) (.int .u32 ((x.g.ws+1:Nat):Int))
 | _=>w

def bT(G:Grp)(a:LA)(x:XS):Array Event:=
 match a with
 | .Fa=> #[qo .disable]
 | .Rh=> #[qo .disable]
 | .en=> #[qo .enable]
 | .ask=> #[]
 | .non=> #[]
 | .clk=> #[]
 | .load=> #[]
 | .cas o _ _=>if x.m.st=o then #[uD (cell0 G.Mu),yT (cell0 G.Mu)]else #[uD (cell0 G.Mu)]
 | .Kr=> #[uD (cell0 G.Mu),yT (cell0 G.Mu)]
 | .uz _=> #[uD (cell0 G.Mu),yT (cell0 G.Mu)]
 | .Hf=>qy (cell1 G.Mu)
 | .Bh=>qy (cell1 G.Mu)
 | .acq=> #[qo (.acquire (cell0 G.Mu))]
 | .rm=> #[qo (.releaseMerge (cell0 G.Mu))]
 | .O0=> #[uD (cell0 G.Wg),yT (cell0 G.Wg)]
 | .LG=> #[qo (.read (cell1 G.Wg))]
 | .IZ=> #[uD (cell0 G.Wg)]
 | .O1 o=>if x.g.v=o then #[uD (cell0 G.Wg),yT (cell0 G.Wg)]else #[uD (cell0 G.Wg)]
 | .FH=> #[qo (.write (cell1 G.Wg))]
 | .DW=>qy (cell1 G.Wg)
 | .LH=> #[uD (cell0 G.Wg)]
 | .Hg=> #[qo (.acquire (cell0 G.Wg))]
 | .Nl=> #[qo (.releaseMerge (cell0 G.Wg))]
 | .wsub=> #[uD (cell0 G.Wg),yT (cell0 G.Wg)]
 | .BR=> #[uD (cell0 G.Wg)]
 | .rF=> #[yT (cell0 G.Wg)]
 | .tN=>qy (cell1 G.Wg)

def rH(a:LA):Prop:=a= .Bh∨a= .tN

def uF(G:Grp)(w:World)(x:XS):Prop:=(∀p,G.mu=some p→w.heap[p.1]? =some (BQ p.2 x.m))∧w.heap[G.Wg]? =some (zo G.tW x.g)

def aJ(G:Grp):jM where
 S:=LS
 A:=LA
 X:=XS
 at_:=uF G
 can:=eX G
 rel:=rG
 blk:=jk
 WO:=oP
 wld:=gJ G
 evs:=bT G
 wak:=rH
 free:=fun a=>a= .Fa∨a= .en
end Go.aS

/- What goroutines list, with words that bind: a trace without races. Conditions: none; over any program. -/
namespace Go.aS
open Go.Conc (Before Knows knows_own touchAt touchAt_of touchAt_old noRace_append getElem?_append_old getElem?_append_cases lt_size_of_getElem? touch_of hb_po mem_of_getElem? hb_app ofEvents_eq Deaf deaf_old g?_old act?_old heard_old lt_of_act? Deaf_own Deaf_other)
structure TK(t:Trace)(n size:Nat)(dv:Nat→Nat):Prop where
 norel:∀op∈t,∀a,op.act≠ .mark (.release a)
 clean:∀said,¬Race said t
 below:∀i a b,touchAt t i=some a→In a.loc b→b<size
 who:∀op∈t,op.g<n
 deaf:∀g,Deaf t g=dv g
 said:∀i a,touchAt t i=some a→a.kind= .said→t.g? i=some 0

def Zn(t:Trace)(g b:Nat):Prop:=∀i a,touchAt t i=some a→In a.loc b→a.kind= .plain→Knows t g i
theorem Own.Ri{t:Trace}{g b:Nat}(h:Own t g b):Zn t g b:=fun i a h1 h2 _=>h i a h1 h2
theorem Zn.app{t u:Trace}{g b:Nat}(h:Zn t g b)(hu:∀op∈u,∀a,op.act.touch? =some a→In a.loc b→a.kind= .plain→op.g=g):Zn (t++u) g b:=by
 intro i a ha hl hp
 rcases fP ha with⟨hi,h1⟩ | ⟨op,ho,hm,h1⟩
 ·exact(h i a h1 hl hp).app u
 ·have:=knows_own ho
  rwa[hu op hm a h1 hl hp]at this

theorem TK.empty{n size:Nat}:TK #[] n size (fun _=>0):=
 ⟨fun op h=>by simp at h,fun said ⟨i,j,hij,⟨a,b,ha,_⟩,_⟩=>by simp[Trace.act?]at ha,fun i a b h=>by simp[touchAt,Trace.act?]at h,fun op h=>by simp at h,fun g=>rfl,fun i a h=>by simp[touchAt,Trace.act?]at h⟩

theorem TK.heard{t:Trace}{n size:Nat}{dv:Nat→Nat}(h:TK t n size dv){u:Trace}{z:MemOp}{r:Nat}(hz:(t++u)[t.size]? =some z)(hd:dv z.g=0):(t++u).heard t.size:=
 ⟨z.g,by simp[Trace.g?,hz],by rw[deaf_old (Nat.le_refl _)];exact(h.deaf z.g).trans hd⟩

theorem O3{t u:Trace}(h:∀i a,touchAt t i=some a→a.kind= .said→t.g? i=some 0)(hu:∀op∈u,∀a,op.act.touch? =some a→a.kind= .said→op.g=0):∀i a,touchAt (t++u) i=some a→a.kind= .said→(t++u).g? i=some 0:=by
 intro i a ha hs
 rcases fP ha with⟨hi,h1⟩ | ⟨op,ho,hm,h1⟩
 ·rw[g?_old hi];exact h i a h1 hs
 ·simp[Trace.g?,ho,hu op hm a h1 hs]

section step
variable{t u:Trace}{n n' j:Nat}{dv:Nat→Nat}{k:Hp}{M:Nat→Prop}{w w':World}{es:Array Event}{fn:FuncId}{pos:String}
theorem deaf_quiet(he:∀e∈es,∀m,MemAct.ofEvent e= .mark m→Fg m=true)(g:Nat):Deaf (t++MemOp.ofEvents j fn pos es) g=Deaf t g:=by
 refine Go.ConcN.Deaf_still t g _ fun op hop=>?_
 obtain⟨e,h1,rfl⟩:=mem_ofEvents hop
 exact⟨fun h=>(by have:=he e h1 _ h;cases this),fun h=>(by have:=he e h1 _ h;cases this)⟩

theorem TK.step(h:TK t n w.heap.size dv)(hj:j<n)(hk:yF k w)(g:dX k M w w' es)(hO:∀b,M b→isC (k b)=false→Own t j b)(hR:∀b,(k b).isSome=true→isC (k b)=false→Rd t j b):
  TK (t++MemOp.ofEvents j fn pos es) n w'.heap.size dv:=by
 refine⟨fun op hop a hm=>?_,fun said=>?_,fun i a b ha hb=>?_,fun op hop=>?_,fun x=>?_,O3 h.said fun op hop a ha hs=>?_⟩
 ·rcases Array.mem_append.1 hop with h1 | h1
  ·exact h.norel op h1 a hm
  ·obtain⟨e,he,rfl⟩:=mem_ofEvents h1
   have:=IY (g.evs e he) hm
   cases this
 ·refine noRace_append (h.clean said) (fun op hop=>by obtain⟨e,_,rfl⟩:=mem_ofEvents hop;rfl) fun i a ha op hop b hb hc=>?_
  obtain⟨e,he,rfl⟩:=mem_ofEvents hop
  obtain⟨bl,h1,_,h3,h4,h5⟩:=pz (g.evs e he) hb
  have hin:In a.loc bl:=by rw[hc.1];exact h1
  rcases h5 with⟨h5,h6,h7⟩ | h5
  ·cases hw:b.write with
   | true=>exact hO bl (h7 hw) h6 i a ha hin
   | false=>
    have haw:a.write=true:=by
     rcases hc.2.2.1 with h | h
     ·exact h
     ·rw[hw]at h;cases h
    exact hR bl h5 h6 i a ha hin haw
  ·exact absurd (h.below i a bl ha hin) (by omega)
 ·rcases fP ha with⟨_,h1⟩ | ⟨op,_,hm,h1⟩
  ·exact Nat.lt_of_lt_of_le (h.below i a b h1 hb) g.size
  ·obtain⟨e,he,rfl⟩:=mem_ofEvents hm
   obtain⟨bl,_,h2,_,_,h5⟩:=pz (g.evs e he) h1
   obtain rfl:=h2 b hb
   rcases h5 with⟨h5,_⟩ | h5
   ·obtain⟨o,ho⟩:=Option.isSome_iff_exists.1 h5
    exact Nat.lt_of_lt_of_le (hk.lt ho) g.size
   ·exact h5.2
 ·rcases Array.mem_append.1 hop with h1 | h1
  ·exact h.who op h1
  ·obtain⟨e,_,rfl⟩:=mem_ofEvents h1
   exact hj
 ·rw[deaf_quiet (fun e he m hm=>IY (g.evs e he) hm)];exact h.deaf x
 ·obtain⟨e,he,rfl⟩:=mem_ofEvents hop
  obtain⟨_,_,_,h3,_⟩:=pz (g.evs e he) ha
  rw[h3]at hs;cases hs

theorem WT(hb':∀i a b,touchAt t i=some a→In a.loc b→b<w.heap.size)(b:Nat)(hb:grown M w w' b)(hO:M b→Own t j b):Own (t++MemOp.ofEvents j fn pos es) j b:=by
 refine Own.app ?_ fun op hop _ _ _=>by obtain⟨e,_,rfl⟩:=mem_ofEvents hop;rfl
 rcases hb with hb | hb
 ·exact hO hb
 ·exact fun i a ha hl=>absurd (hb' i a b ha hl) (by omega)
theorem Zo(hb':∀i a b,touchAt t i=some a→In a.loc b→b<w.heap.size)(hR:∀b,(k b).isSome=true→isC (k b)=false→Rd t j b):∀b,(snap k w w' b).isSome=true→isC (snap k w w' b)=false→Rd (t++MemOp.ofEvents j fn pos es) j b:=by
 intro b hb hc
 refine Rd.app ?_ fun op hop _ _ _ _=>by obtain⟨e,_,rfl⟩:=mem_ofEvents hop;rfl
 by_cases hk:(k b).isSome=true
 ·exact hR b hk (OX b hc)
 ·have hkn:k b=none:=by simpa using hk
  have:w.heap.size≤b:=by
   simp only[snap,hkn,isC]at hb
   by_cases h3:w.heap.size≤b∧b<w'.heap.size
   ·exact h3.1
   ·have h7:(decide (w.heap.size≤b)&&decide (b<w'.heap.size))=false:=by simpa using h3
    simp[h7]at hb
  exact fun i a ha hl=>absurd (hb' i a b ha hl) (by omega)
theorem O4(g:dX k M w w' es){b:Nat}(hb:b<w.heap.size)(hn:(k b).isSome=true→isC (k b)=true):∀op∈MemOp.ofEvents j fn pos es,∀a,op.act.touch? =some a→¬In a.loc b:=by
 intro op hop a ha hl
 obtain⟨e,he,rfl⟩:=mem_ofEvents hop
 obtain⟨bl,_,h2,_,_,h5⟩:=pz (g.evs e he) ha
 obtain rfl:=h2 b hl
 rcases h5 with⟨h5,h6,_⟩ | h5
 ·rw[hn h5]at h6;cases h6
 ·omega

structure Kt(t:Trace)(j size:Nat)(u:Trace):Prop where
 g:∀op∈u,op.g=j
 touch:∀op∈u,∀a,op.act.touch? =some a→a.kind≠ .plain∧(a.kind= .said→j=0)∧∃b,In a.loc b∧(∀b',In a.loc b'→b'=b)∧b<size∧Zn t j b
 norel:∀op∈u,∀a,op.act≠ .mark (.release a)

theorem TK.sh{size size':Nat}{Y_:Nat→Nat}(h:TK t n size dv)(hj:j<n)(hn:n≤n')(hs:size≤size')(hu:Kt t j size u)(hd:∀g,Deaf (t++u) g=Y_ g):TK (t++u) n' size' Y_:=by
 refine⟨fun op hop a hm=>?_,fun said=>?_,fun i a b ha hb=>?_,fun op hop=>?_,hd,O3 h.said fun op hop a ha hsd=>?_⟩
 ·rcases Array.mem_append.1 hop with h1 | h1
  ·exact h.norel op h1 a hm
  ·exact hu.norel op h1 a hm
 ·refine noRace_append (h.clean said) hu.g fun i a ha op hop b hb hc=>?_
  obtain⟨h1,h2,bl,h3,_,_,h4⟩:=hu.touch op hop b hb
  have hin:In a.loc bl:=by rw[hc.1];exact h3
  rcases hc.2.2.2 with h5 | h5 | ⟨_,h5,h6⟩
  ·exact h4 i a ha hin h5
  ·exact absurd h5 h1
  ·have h7:=h.said i a ha h5
   obtain rfl:=h2 h6
   obtain⟨x,hx,_⟩:=touch_of ha
   have:=knows_own hx
   simp only[Trace.g?,hx,Option.map_some,Option.some.injEq]at h7
   rwa[h7]at this
 ·rcases fP ha with⟨_,h1⟩ | ⟨op,_,hm,h1⟩
  ·exact Nat.lt_of_lt_of_le (h.below i a b h1 hb) hs
  ·obtain⟨_,_,bl,_,h3,h4,_⟩:=hu.touch op hm a h1
   rw[h3 b hb];omega
 ·rcases Array.mem_append.1 hop with h1 | h1
  ·exact Nat.lt_of_lt_of_le (h.who op h1) hn
  ·rw[hu.g op h1];omega
 ·rw[hu.g op hop];exact(hu.touch op hop a ha).2.1 hsd

theorem Kt.own{size:Nat}(hu:Kt t j size u){g b:Nat}(h:Own t g b)(hb:∀op∈u,∀a,op.act.touch? =some a→¬In a.loc b):Own (t++u) g b:=h.app fun op hop a ha hl=>absurd hl (hb op hop a ha)
theorem Kt.rd{size:Nat}(hu:Kt t j size u){g b:Nat}(h:Rd t g b)(hb:∀op∈u,∀a,op.act.touch? =some a→¬In a.loc b):Rd (t++u) g b:=h.app fun op hop a ha hl _=>absurd hl (hb op hop a ha)
theorem Kt.Ri{size:Nat}(hu:Kt t j size u){g b:Nat}(h:Zn t g b):Zn (t++u) g b:=h.app fun op hop a ha _ hp=>absurd hp (hu.touch op hop a ha).1

theorem O5{z:MemOp}{p:Nat}{a:Addr}(hn:∀op∈t,∀a,op.act≠ .mark (.release a))(hp:t.act? p=some (.mark (.releaseMerge a)))(hh:t.heard p)(hz:z.act= .mark (.acquire a))(hd:Deaf t z.g=0):HappensBefore (t++ #[z]) p t.size:=by
 have hq:(t++ #[z])[t.size]? =some z:=by simp
 have hlt:=lt_of_act? hp
 refine .single (.inr ⟨.marked hlt (.inr (by rw[act?_old hlt];exact hp)) (by simp[Trace.act?,hq,hz]) (fun k _ _ hk=>?_),(heard_old hlt).2 hh,⟨z.g,by simp[Trace.g?,hq],by rw[deaf_old (Nat.le_refl _)];exact hd⟩⟩)
 obtain⟨op,ho,hoa⟩:=Option.map_eq_some_iff.1 hk
 rcases Array.mem_append.1 (mem_of_getElem? ho)with h1 | h1
 ·exact hn op h1 a hoa
 ·obtain rfl:op=z:=by simpa using h1
  rw[hz]at hoa;cases hoa
theorem DY{z:MemOp}{p i:Nat}{a:Addr}(hn:∀op∈t,∀a,op.act≠ .mark (.release a))(hp:t.act? p=some (.mark (.releaseMerge a)))(hh:t.heard p)(hz:z.act= .mark (.acquire a))(hd:Deaf t z.g=0)(hb:Before t i p):Knows (t++ #[z]) z.g i:=
 ⟨t.size,z,by simp,rfl,.inr ((hb.app #[z]).hb (O5 hn hp hh hz hd))⟩
theorem Own.before{g b:Nat}(h:Own t g b){y:MemOp}(hy:y.g=g){i:Nat}{a:Touch}(ha:touchAt t i=some a)(hl:In a.loc b):Before (t++ #[y]) i t.size:=
 .inr ((h i a ha hl).hb_new (Nat.le_refl _) (by simp) hy)
end step
end Go.aS

/- Goroutines that send over a channel of their own. Conditions: none; over any program. -/
namespace Go.aS
open Go.Conc (crowd parked rcase scase QuitsIn Before Knows knows_own touchAt touchAt_of touchAt_old getElem?_append_old getElem?_append_cases lt_size_of_getElem? touch_of hb_po hb_app ofEvents_eq woken)
def hset(k:Hp)(c:Nat)(o:Obj):Hp:=⟨fun b=>if b=c then some o else k b,k.z⟩
def Dom(k:Hp)(M:Nat→Prop):Prop:=∀b,M b→(k b).isSome=true

/-! ### How far a sender is -/
inductive KC where
 | run (g:Goroutine) (k:Hp) (M:Nat→Prop)
 | acV (k:Hp) (M:Nat→Prop)
 | quit (n:Nat)

inductive KR(P:Program)(c:Nat):KC→KC→Prop
 | step {g g':Goroutine} {k:Hp} {M:Nat→Prop} {w w':World} {es:Array Event} {s r:Nat} (ha:yF k w) (hd:Dom k M) (ho:w.heap[c]? =some (.chan 0 #[] false s r false)) (e:stepG P false g w= .go g' w' es) (hg:dX k M w w' es):KR P c (.run g' (snap k w w') (grown M w w')) (.run g k M)
 | acV {g:Goroutine} {k:Hp} {M:Nat→Prop}:KR P c (.acV k M) (.run g k M)
 | quit {g:Goroutine} {k:Hp} {M:Nat→Prop} {n:Nat}:KR P c (.quit n) (.run g k M)
 | quits {n:Nat}:KR P c (.quit n) (.quit (n+1))

inductive LR(P:Program):List (Nat×KC)→List (Nat×KC)→Prop
 | here {c:Nat} {x x':KC} {l:List (Nat×KC)} (h:KR P c x' x):LR P ((c,x')::l) ((c,x)::l)
 | there {y:Nat×KC} {l l':List (Nat×KC)} (h:LR P l' l):LR P (y::l') (y::l)

theorem LR.at{P:Program}{c:Nat}{x x':KC}(h:KR P c x' x):∀{l:List (Nat×KC)} {i:Nat},l[i]? =some (c,x)→LR P (l.set i (c,x')) l
 | [],i,e=>by simp at e
 | y::l,0,e=>by
  simp only[List.getElem?_cons_zero,Option.some.injEq]at e
  subst e
  exact .here h
 | y::l,i+1,e=>.there (LR.at h (by simpa using e))

/-! ### small laws -/
theorem bH(k:Hp)(c:Nat)(o:Obj):hset k c o c=some o:=by simp[hset]
theorem bY(k:Hp){c b:Nat}(o:Obj)(h:b≠c):hset k c o b=k b:=by simp[hset,h]
theorem WU{k:Hp}{c b:Nat}{o o':Obj}(h:k c=some o')(ho':o'.isChan=true)(ho:o.isChan=true):isC (hset k c o b)=isC (k b)∧(hset k c o b).isSome=(k b).isSome:=by
 by_cases hb:b=c
 ·subst hb;simp[bH,h,isC,ho,ho']
 ·rw[bY _ _ hb];exact⟨rfl,rfl⟩

end Go.aS

/- Workers of a group, and the one that starts them and waits: their trees of steps, and what is said of the shared blocks. Conditions: none; over any program. -/
namespace Go.aS
open Go.Conc (QuitsIn QuitsD)
structure GP extends Grp where
 C:Nat
 J:List Nat→Obj→Prop
 tag:Nat→Option Nat
 R:Nat→ah→Prop

inductive GR where
 | out
 | hold (l:List Nat)
 | fin
def gK:GR→Obj
 | .out=>.chan 2 #[] true 0 0 false
 | .hold l=>.chan 2 (l.map fun(n:Nat)=>Value.int .i64 (n:Int)).toArray true 1 0 false
 | .fin=>.chan 2 #[] true 2 0 false
theorem nH{r r':GR}(h:gK r=gK r'):r=r':=by
 cases r <;>cases r' <;>simp only[gK,Obj.chan.injEq,reduceCtorEq,false_and,and_false,Nat.reduceEqDiff]at h <;>try rfl
 all_goals first | (exfalso;revert h;simp;done) | skip
 rename_i l l'
 have h1:=congrArg Array.toList h.2.1
 have h2:=congrArg (List.map fun v=>match v with | Value.int _ n=>n.toNat | _=>0) h1
 have:l=l':=by simpa[List.map_map,Function.comp_def]using h2
 rw[this]
def sK(t j left:Nat):Obj:=.chan (t+3) #[] false j left false
def Bj:Obj:=.chan 3 #[] true 0 0 false
theorem vg(t j l:Nat):kN (sK t j l)=true:=by simp[sK,kN,Nat.ble_eq]
theorem Np{t j l t' j' l':Nat}(h:sK t j l=sK t' j' l'):t=t'∧j=j'∧l=l':=by
 simp only[sK,Obj.chan.injEq]at h
 omega

def hdel(k:Hp)(b:Nat):Hp:=⟨fun x=>if x=b then none else k x,k.z⟩
def xX(k:Hp)(F:ah):Hp:=⟨fun x=>if(F.lookup x).isSome then none else k x,k.z⟩
def hadd(k:Hp)(F:ah):Hp:=⟨fun b=>match F.lookup b with | some o=>some o | none=>k b,k.z⟩

inductive dB(P:Program)(m:Bool)(π:jM)(E:π.S→Goroutine→Prop):π.S→Goroutine→Type
 | exit {s:π.S} {g:Goroutine} (hs:g.status= .running) (h:E s g):dB P m π E s g
 | idle {s:π.S} {g g':Goroutine} (hs:g.status= .running) (e:∀w,stepG P m g w= .go g' w #[]) (h:dB P m π E s g'):dB P m π E s g
 | act {s:π.S} {g:Goroutine} (a:π.A) (hs:g.status= .running) (hc:π.can a s) (ho:g.offers=none)
   (wait:∀w x,π.at_ w x→π.rel a s x→π.blk a x→stepG P m g w= .go {g with status:=.blocked} w #[])
   (ok:∀w x,π.at_ w x→π.rel a s x→¬π.blk a x→∃g',stepG P m g w= .go g' (π.wld a x w) (π.evs a x)∧g'.status= .running)
   (wk:π.wak a→mayWake P g=true) (fr:π.free a→∃g' es,(∀e∈es,Event.mute e=true)∧∀w,stepG P m g w= .go g' w es)
   (h:∀w x g' w' es s',π.at_ w x→π.rel a s x→¬π.blk a x→stepG P m g w= .go g' w' es→π.WO a s x s'→dB P m π E s' g'):dB P m π E s g
theorem jJ.tree{P:Program}{m:Bool}{π:jM}{E:π.S→Goroutine→Prop}{s:π.S}{g:Goroutine}(T:jJ P m π E s g):Nonempty (dB P m π E s g):=by
 induction T with
 | exit hs h=>exact⟨.exit hs h⟩
 | idle hs e _ ih=>exact ih.elim fun t=>⟨.idle hs e t⟩
 | act a hs hc ho wait ok wk fr _ ih=>exact⟨.act a hs hc ho wait ok wk fr fun w x g' w' es s' h1 h2 h3 h4 h5=>Classical.choice (ih w x g' w' es s' h1 h2 h3 h4 h5)⟩

theorem dB.status{P:Program}{m:Bool}{π:jM}{E:π.S→Goroutine→Prop}{s:π.S}{g:Goroutine}(T:dB P m π E s g):g.status= .running:=by cases T <;>assumption
def Gone(P:Program)(s:LS)(g:Goroutine):Prop:=s= .dn .gone 0∧∃n,QuitsIn P n g

inductive yU(P:Program)(γ:GP)(j:Nat):Goroutine→Hp→(Nat→Prop)→Type
 | step {g:Goroutine} {k:Hp} {M:Nat→Prop} (hs:g.status= .running)
   (ok:∀w,yF k w→Dom k M→∃g' w' es,stepG P false g w= .go g' w' es∧dX k M w w' es)
   (h:∀w g' w' es,yF k w→Dom k M→stepG P false g w= .go g' w' es→yU P γ j g' (snap k w w') (grown M w w')):yU P γ j g k M
 | lock {g:Goroutine} {k:Hp} {M:Nat→Prop} (hm:γ.mu≠none) (hk:k γ.Mu=some (gK .out)) (hM:M γ.Mu) (E:LS→Goroutine→Prop)
   (T:∀B,dB P false (aJ γ.toGrp) E (.mu .out none B 0 0) g) (hE:∀s g',E s g'→∃o B,s= .mu .hold o B 0 1)
   (h:∀s g' l c,E s g'→γ.J l c→k γ.C=none→¬M γ.C→yU P γ j g' (hset (hset k γ.Mu (gK (.hold l))) γ.C c) (fun b=>M b∨b=γ.C)):yU P γ j g k M
 | unlock {g:Goroutine} {k:Hp} {M:Nat→Prop} {l:List Nat} {c:Obj} {t:Nat} (hm:γ.mu≠none) (hk:k γ.Mu=some (gK (.hold l))) (hM:M γ.Mu) (hC:k γ.C=some c) (Ho:M γ.C) (ht:γ.tag j=some t) (hJ:γ.J (t::l) c) (E:LS→Goroutine→Prop)
   (T:∀B,dB P false (aJ γ.toGrp) E (.mu .hold none B 0 1) g) (hE:∀s g',E s g'→∃o B,s= .mu .fin o B 0 2)
   (h:∀s g',E s g'→yU P γ j g' (hdel (hset k γ.Mu (gK .fin)) γ.C) (fun b=>M b∧b≠γ.C)):yU P γ j g k M
 | done {g:Goroutine} {k:Hp} {M:Nat→Prop} (hk:γ.tag j=none∨(γ.mu≠none∧k γ.Mu=some (gK .fin))) (A:ah) (hA:∀b o,(b,o)∈A→k b=some o∧M b∧o.isChan=false) (hn:(A.map (·.1)).Nodup) (hR:γ.R j A)
   (T:dB P false (aJ γ.toGrp) (Gone P) (.dn .live 0) g):yU P γ j g k M
abbrev Wk(P:Program)(γ:GP)(j:Nat)(g:Goroutine)(k:Hp)(M:Nat→Prop):Prop:=Nonempty (yU P γ j g k M)

theorem yU.status{P:Program}{γ:GP}{j:Nat}{g:Goroutine}{k:Hp}{M:Nat→Prop}(T:yU P γ j g k M):g.status= .running:=by
 cases T with
 | step hs _ _=>exact hs
 | lock _ _ _ _ T _ _=>exact(T 0).status
 | unlock _ _ _ _ _ _ _ _ T _ _=>exact(T 0).status
 | done _ _ _ _ _ T=>exact T.status
def back(γ:GP)(c:Obj)(As:List ah):ah:=(if γ.mu=none then[]else[(γ.C,c)])++As.flatten

inductive wO(P:Program)(γ:GP)(Ex:Goroutine→Hp→(Nat→Prop)→Prop):Goroutine→Hp→(Nat→Prop)→Prop
 | exit {g:Goroutine} {k:Hp} {M:Nat→Prop} (hk:k γ.Wg=some Bj) (h:Ex g (hdel k γ.Wg) (fun b=>M b∧b≠γ.Wg)):wO P γ Ex g k M
 | step {g:Goroutine} {k:Hp} {M:Nat→Prop} (hs:g.status= .running)
   (ok:∀w,yF k w→Dom k M→∃g' w' es,stepG P true g w= .go g' w' es∧dX k M w w' es)
   (h:∀w g' w' es,yF k w→Dom k M→stepG P true g w= .go g' w' es→wO P γ Ex g' (snap k w w') (grown M w w')):wO P γ Ex g k M
 | add {g:Goroutine} {k:Hp} {M:Nat→Prop} {j left:Nat} (hk:k γ.Wg=some (sK 0 j left)) (hM:M γ.Wg) (E:LS→Goroutine→Prop)
   (T:jJ P true (aJ γ.toGrp) E (.wg (.add 0) 0) g) (hE:∀s g',E s g'→s= .wg (.add 1) 0)
   (h:∀s g',E s g'→wO P γ Ex g' (hset k γ.Wg (sK 1 j left)) M):wO P γ Ex g k M
 | spawn {g g' child:Goroutine} {k kc:Hp} {M M':Nat→Prop} {j left:Nat} {A:ah} (hs:g.status= .running) (hs':g'.status= .running) (hsc:child.status= .running)
   (e:∀w,stepG P true g w= .spawn g' child w #[]) (hk:k γ.Wg=some (sK 1 j (left+1))) (hM:M γ.Wg)
   (hsub:(γ.mu≠none→k γ.Mu=none)→∀b o,kc b=some o→(b=γ.Mu∧γ.mu≠none∧γ.tag j≠none∧o=gK .out)∨(k b=some o∧o.isChan=false)) (hmu:γ.tag j≠none→γ.mu≠none∧kc γ.Mu=some (gK .out)) (hmn:(γ.mu≠none→k γ.Mu=none)→γ.mu≠none→γ.tag j=none→kc γ.Mu=none)
   (hA:(γ.mu≠none→k γ.Mu=none)→∀b o,(b,o)∈A→kc b=some o∧k b=some o∧M b∧o.isChan=false)
   (hc:(γ.mu≠none→k γ.Mu=none)→Wk P γ j child kc fun b=>(b=γ.Mu∧γ.tag j≠none)∨∃o,(b,o)∈A)
   (hM':Less k M' M) (WV:M' γ.Wg) (hsep:∀b,(γ.mu≠none→b≠γ.Mu)→(kc b).isSome=true→¬M' b)
   (h:wO P γ Ex g' (hset (xX k A) γ.Wg (sK 0 (j+1) left)) M'):wO P γ Ex g k M
 | wait {g:Goroutine} {k:Hp} {M:Nat→Prop} {j left:Nat} (hk:k γ.Wg=some (sK 0 j left)) (hM:M γ.Wg) (E:LS→Goroutine→Prop)
   (T:jJ P true (aJ γ.toGrp) E (.wg (.add 0) 0) g) (hE:∀s g',E s g'→s= .wg .out 0)
   (
    h:∀s g' l c As,E s g'→As.length=j→(∀(i:Nat) (A:ah),As[i]? =some A→γ.R i A)→(γ.mu≠none→γ.J l c∧l.Perm ((List.range j).filterMap γ.tag))→
    ((back γ c As).map (·.1)).Nodup→(∀b o,(b,o)∈back γ c As→k b=none∧¬M b∧o.isChan=false)→
    wO P γ Ex g' (hset (hadd k (back γ c As)) γ.Wg Bj) (fun b=>M b∨∃o,(b,o)∈back γ c As)):wO P γ Ex g k M
end Go.aS

/- The memory and the trace of many goroutines, each with what it knows and may write: kept by own steps, by acts on shared blocks, by handing over. Conditions: none; over any program. -/
namespace Go.aS
open Go.Conc (Before Knows knows_own touchAt touchAt_of touchAt_old noRace_append getElem?_append_old getElem?_append_cases lt_size_of_getElem? touch_of hb_po mem_of_getElem? hb_app ofEvents_eq Deaf deaf_old g?_old act?_old heard_old lt_of_act? Deaf_own Deaf_other)
def Apart(M:Nat→Prop)(k:Hp):Prop:=∀b,M b→(k b).isSome=true→isC (k b)=true

theorem yF.rely{k k':Hp}{M:Nat→Prop}{w w':World}{es:Array Event}(ha:yF k' w)(g:dX k M w w' es)(hap:Apart M k'):yF k' w':=by
 intro b o ho
 obtain⟨o',h1,h2⟩:=ha b o ho
 by_cases hm:M b
 ·have hc:o.isChan=true:=by
   have:=hap b hm (by rw[ho];rfl)
   rw[ho]at this
   exact this
  rcases h2 with h2 | ⟨_,h2 | h2⟩
  ·exact⟨o',g.chans b o' h1 (by rw[h2];exact hc),.inl h2⟩
  ·exact⟨o',g.chans b o' h1 h2,.inr ⟨hc,.inl h2⟩⟩
  ·have hlt:=Nat.lt_of_lt_of_le (m_ h1) g.size
   exact⟨w'.heap[b],Array.getElem?_eq_getElem hlt,.inr ⟨hc,.inr h2⟩⟩
 ·exact⟨o',by rw[g.keep b (m_ h1) hm];exact h1,h2⟩

theorem O6{k:Hp}{M:Nat→Prop}{w w':World}(h:Apart M k)(ha:yF k w):Apart (grown M w w') k:=by
 intro b hb hs
 rcases hb with hb | hb
 ·exact h b hb hs
 ·obtain⟨o,ho⟩:=Option.isSome_iff_exists.1 hs
  have:=ha.lt ho
  omega
theorem Rj{k k':Hp}{M':Nat→Prop}{w w':World}(h:Apart M' k)(hd:Dom k' M')(ha:yF k' w):Apart M' (snap k w w'):=by
 intro b hb hs
 obtain⟨o,ho⟩:=Option.isSome_iff_exists.1 (hd b hb)
 have hlt:=ha.lt ho
 cases hc:isC (k b)with
 | true=>simp[snap,hc]
 | false=>
  have hk:(k b).isSome=true:=by
   cases hk:(k b).isSome with
   | true=>rfl
   | false=>
    have h3:¬w.heap.size≤b:=by omega
    simp[snap,hc,hk,h3]at hs
  rw[h b hb hk]at hc;cases hc
theorem vk{k:Hp}{w w':World}{c:Nat}{o:Obj}(h:k c=some o)(hc:o.isChan=true):snap k w w' c=some o:=by simp[snap,h,isC,hc]
theorem vC{k:Hp}{w w':World}{b:Nat}(h:k b=none)(hb:b<w.heap.size):snap k w w' b=none:=by
 have h3:¬w.heap.size≤b:=by omega
 simp[snap,h,isC,h3]

abbrev Rk:=Nat→Option (Hp×(Nat→Prop))
def Bl(pr:Rk)(g:Nat)(v:Option (Hp×(Nat→Prop))):Rk:=fun x=>if x=g then v else pr x
theorem fA{pr:Rk}{g:Nat}{v:Option (Hp×(Nat→Prop))}:Bl pr g v g=v:=by simp[Bl]
theorem jy{pr:Rk}{g x:Nat}{v:Option (Hp×(Nat→Prop))}(h:x≠g):Bl pr g v x=pr x:=by simp[Bl,h]

structure WW(w:World)(t:Trace)(g:Nat)(k:Hp)(M:Nat→Prop):Prop where
 uG:yF k w
 dom:Dom k M
 own:∀b,M b→isC (k b)=false→Own t g b
 rd:∀b,(k b).isSome=true→isC (k b)=false→Rd t g b

structure LY(w:World)(t:Trace)(n:Nat)(dv:Nat→Nat)(pr:Rk)(sh hid:Nat→Prop):Prop where
 tk:TK t n w.heap.size dv
 DZ:∀g k M,pr g=some (k,M)→WW w t g k M
 apart:∀g g' k M k' M',g≠g'→pr g=some (k,M)→pr g'=some (k',M')→Apart M k'
 Ij:∀b g k M o,sh b→pr g=some (k,M)→k b=some o→kN o=true
 fk:∀b g k M o,pr g=some (k,M)→k b=some o→kN o=true→sh b
 uH:∀b g k M,hid b→pr g=some (k,M)→k b=none
 lt:∀b,sh b∨hid b→b<w.heap.size

section
variable{w w':World}{t u:Trace}{n:Nat}{dv Y_:Nat→Nat}{pr:Rk}{sh hid:Nat→Prop}
theorem WW.lt{g:Nat}{k:Hp}{M:Nat→Prop}(h:WW w t g k M){b:Nat}(hb:M b):b<w.heap.size:=let⟨_,ho⟩:=Option.isSome_iff_exists.1 (h.dom b hb);h.uG.lt ho
theorem WW.klt{g:Nat}{k:Hp}{M:Nat→Prop}(h:WW w t g k M){b:Nat}(hb:(k b).isSome=true):b<w.heap.size:=let⟨_,ho⟩:=Option.isSome_iff_exists.1 hb;h.uG.lt ho

theorem LY.step{g:Nat}{k:Hp}{M:Nat→Prop}{es:Array Event}{fn:FuncId}{pos:String}(Y:LY w t n dv pr sh hid)(hg:pr g=some (k,M))(hn:g<n)(gu:dX k M w w' es):
  LY w' (t++MemOp.ofEvents g fn pos es) n dv (Bl pr g (some (snap k w w',grown M w w'))) sh hid:=by
 have K:=Y.DZ g k M hg
 have sN:∀{x k' M'},Bl pr g (some (snap k w w',grown M w w')) x=some (k',M')→(x=g∧k'=snap k w w'∧M'=grown M w w')∨(x≠g∧pr x=some (k',M')):=by
  intro x k' M' h
  by_cases hx:x=g
  ·subst hx;rw[fA]at h;cases h;exact .inl ⟨rfl,rfl,rfl⟩
  ·rw[jy hx]at h;exact .inr ⟨hx,h⟩
 refine⟨Y.tk.step hn K.uG gu K.own K.rd,fun x k' M' h=>?_,fun x y k1 M1 k2 M2 hxy h1 h2=>?_,fun b x k' M' o hb h ho=>?_,fun b x k' M' o h ho hf=>?_,fun b x k' M' hb h=>?_,fun b hb=>Nat.lt_of_lt_of_le (Y.lt b hb) gu.size⟩
 ·rcases sN h with⟨rfl,rfl,rfl⟩ | ⟨hx,h⟩
  ·exact⟨qZ K.uG gu,u_ K.uG K.dom gu.size,fun b hb hc=>WT Y.tk.below b hb fun hm=>K.own b hm (OX b hc),Zo Y.tk.below K.rd⟩
  ·have K':=Y.DZ x k' M' h
   have a1:=Y.apart g x k M k' M' (Ne.symm hx) hg h
   have a2:=Y.apart x g k' M' k M hx h hg
   refine⟨K'.uG.rely gu a1,K'.dom,fun b hb hc=>UR gu (K'.own b hb hc) (K'.lt hb) (a2 b hb),fun b hb hc=>WH gu (K'.rd b hb hc) (K'.klt hb) fun hm=>?_⟩
   rw[a1 b hm hb]at hc;cases hc
 ·rcases sN h1 with⟨rfl,rfl,rfl⟩ | ⟨hx,q1⟩
  ·rcases sN h2 with⟨rfl,_,_⟩ | ⟨hy,q2⟩
   ·exact absurd rfl hxy
   ·exact O6 (Y.apart _ y k M k2 M2 hxy hg q2) (Y.DZ y k2 M2 q2).uG
  ·rcases sN h2 with⟨rfl,rfl,rfl⟩ | ⟨hy,q2⟩
   ·have K1:=Y.DZ x k1 M1 q1
    exact Rj (Y.apart x _ k1 M1 k M hxy q1 hg) K1.dom K1.uG
   ·exact Y.apart x y k1 M1 k2 M2 hxy q1 q2
 ·rcases sN h with⟨rfl,rfl,rfl⟩ | ⟨hx,h⟩
  ·cases hk:k b with
   | none=>rw[vC hk (Y.lt b (.inl hb))]at ho;cases ho
   | some o'=>
    have hf:=Y.Ij b _ k M o' hb hg hk
    rw[vk hk (dU hf)]at ho
    cases ho;exact hf
  ·exact Y.Ij b x k' M' o hb h ho
 ·rcases sN h with⟨rfl,rfl,rfl⟩ | ⟨hx,h⟩
  ·cases hc:isC (k b)with
   | true=>
    have:snap k w w' b=k b:=by simp[snap,hc]
    rw[this]at ho
    exact Y.fk b _ k M o hg ho hf
   | false=>
    exfalso
    have hoc:=dU hf
    simp only[snap,hc,Bool.false_eq_true,if_false]at ho
    split at ho
    ·by_cases hlt:b<w.heap.size
     ·obtain⟨o₁,e⟩:=Option.isSome_iff_exists.1 (show(w.heap[b]?).isSome=true by simp;omega)
      cases aaP:o₁.isChan with
      | true=>
       cases hk:k b with
       | none=>rename_i hx;simp[hk]at hx;omega
       | some y=>
        obtain⟨o₂,e2,e3⟩:=K.uG b y hk
        rw[e]at e2;cases e2
        rw[hk]at hc
        rcases e3 with e3 | e3
        ·rw[←e3]at hc;rw[show isC (some o₁)=o₁.isChan from rfl,aaP]at hc;cases hc
        ·rw[show isC (some y)=y.isChan from rfl,e3.1]at hc;cases hc
      | false=>rw[gu.stay b o₁ o e aaP ho]at hoc;cases hoc
     ·have:=gu.news b o (by omega) ho hoc
      subst this;cases hf
    ·cases ho
  ·exact Y.fk b x k' M' o h ho hf
 ·rcases sN h with⟨rfl,rfl,rfl⟩ | ⟨hx,h⟩
  ·exact vC (Y.uH b _ k M hb hg) (Y.lt b (.inr hb))
  ·exact Y.uH b x k' M' hb h

theorem LY.UW{g n':Nat}{WX:Nat→Prop}(Y:LY w t n dv pr sh hid)(hn:g<n)(hn':n≤n')(hsz:w'.heap.size=w.heap.size)(hoff:∀b,¬WX b→w'.heap[b]? =w.heap[b]?)(hu:Kt t g w.heap.size u)
  (hut:∀op∈u,∀a,op.act.touch? =some a→∀b,In a.loc b→WX b) (hk:∀b x k M o,WX b→pr x=some (k,M)→k b=some o→o.isChan=true∧(kN o=true∨∃o',w'.heap[b]? =some o'∧o'.isChan=true))
  (hd:∀g,Deaf (t++u) g=Y_ g):LY w' (t++u) n' Y_ pr sh hid:=by
 refine⟨Y.tk.sh hn hn' (by rw[hsz];exact Nat.le_refl _) hu hd,fun x k M h=>?_,Y.apart,Y.Ij,Y.fk,Y.uH,fun b hb=>by rw[hsz];exact Y.lt b hb⟩
 have K:=Y.DZ x k M h
 have nt:∀b,(k b).isSome=true→isC (k b)=false→¬WX b:=fun b hs hc ht=>by
  obtain⟨o,ho⟩:=Option.isSome_iff_exists.1 hs
  have:=(hk b x k M o ht h ho).1
  rw[ho]at hc
  rw[show isC (some o)=o.isChan from rfl,this]at hc;cases hc
 refine⟨fun b o ho=>?_,K.dom,fun b hb hc=>?_,fun b hb hc=>?_⟩
 ·obtain⟨o',h1,h2⟩:=K.uG b o ho
  by_cases ht:WX b
  ·obtain⟨h3,h4 | ⟨o₂,h4,h5⟩⟩:=hk b x k M o ht h ho
   ·have hlt:b<w'.heap.size:=by rw[hsz];exact m_ h1
    exact⟨w'.heap[b],Array.getElem?_eq_getElem hlt,.inr ⟨h3,.inr h4⟩⟩
   ·exact⟨o₂,h4,.inr ⟨h3,.inl h5⟩⟩
  ·exact⟨o',by rw[hoff b ht];exact h1,h2⟩
 ·exact hu.own (K.own b hb hc) fun op hop a ha hl=>nt b (K.dom b hb) hc (hut op hop a ha b hl)
 ·exact hu.rd (K.rd b hb hc) fun op hop a ha hl=>nt b hb hc (hut op hop a ha b hl)

theorem LY.set{g:Nat}{k':Hp}{M':Nat→Prop}(Y:LY w t n dv pr sh hid)(hK:WW w t g k' M')(h1:∀x k M,x≠g→pr x=some (k,M)→Apart M' k∧Apart M k')(h2:∀b o,k' b=some o→(sh b→kN o=true)∧(kN o=true→sh b))(h3:∀b,hid b→k' b=none):
  LY w t n dv (Bl pr g (some (k',M'))) sh hid:=by
 have sN:∀{x k1 M1},Bl pr g (some (k',M')) x=some (k1,M1)→(x=g∧k1=k'∧M1=M')∨(x≠g∧pr x=some (k1,M1)):=by
  intro x k1 M1 h
  by_cases hx:x=g
  ·subst hx;rw[fA]at h;cases h;exact .inl ⟨rfl,rfl,rfl⟩
  ·rw[jy hx]at h;exact .inr ⟨hx,h⟩
 refine⟨Y.tk,fun x k1 M1 h=>?_,fun x y k1 M1 k2 M2 hxy e1 e2=>?_,fun b x k1 M1 o hb h ho=>?_,fun b x k1 M1 o h ho hf=>?_,fun b x k1 M1 hb h=>?_,Y.lt⟩
 ·rcases sN h with⟨rfl,rfl,rfl⟩ | ⟨hx,h⟩
  ·exact hK
  ·exact Y.DZ x k1 M1 h
 ·rcases sN e1 with⟨rfl,rfl,rfl⟩ | ⟨hx,q1⟩
  ·rcases sN e2 with⟨rfl,_,_⟩ | ⟨hy,q2⟩
   ·exact absurd rfl hxy
   ·exact(h1 y k2 M2 hy q2).1
  ·rcases sN e2 with⟨rfl,rfl,rfl⟩ | ⟨hy,q2⟩
   ·exact(h1 x k1 M1 hx q1).2
   ·exact Y.apart x y k1 M1 k2 M2 hxy q1 q2
 ·rcases sN h with⟨rfl,rfl,rfl⟩ | ⟨hx,h⟩
  ·exact(h2 b o ho).1 hb
  ·exact Y.Ij b x k1 M1 o hb h ho
 ·rcases sN h with⟨rfl,rfl,rfl⟩ | ⟨hx,h⟩
  ·exact(h2 b o ho).2 hf
  ·exact Y.fk b x k1 M1 o h ho hf
 ·rcases sN h with⟨rfl,rfl,rfl⟩ | ⟨hx,h⟩
  ·exact h3 b hb
  ·exact Y.uH b x k1 M1 hb h
theorem LY.drop{g:Nat}(Y:LY w t n dv pr sh hid):LY w t n dv (Bl pr g none) sh hid:=by
 have sN:∀{x k1 M1},Bl pr g none x=some (k1,M1)→pr x=some (k1,M1):=by
  intro x k1 M1 h
  by_cases hx:x=g
  ·subst hx;rw[fA]at h;cases h
  ·rw[jy hx]at h;exact h
 exact⟨Y.tk,fun x k1 M1 h=>Y.DZ x k1 M1 (sN h),fun x y k1 M1 k2 M2 hxy e1 e2=>Y.apart x y k1 M1 k2 M2 hxy (sN e1) (sN e2),fun b x k1 M1 o hb h ho=>Y.Ij b x k1 M1 o hb (sN h) ho,fun b x k1 M1 o h ho hf=>Y.fk b x k1 M1 o (sN h) ho hf,fun b x k1 M1 hb h=>Y.uH b x k1 M1 hb (sN h),Y.lt⟩
theorem LY.re{sh' abh:Nat→Prop}(Y:LY w t n dv pr sh hid)(h1:∀b g k M o,pr g=some (k,M)→k b=some o→(sh' b→kN o=true)∧(kN o=true→sh' b))(h2:∀b g k M,abh b→pr g=some (k,M)→k b=none)(h3:∀b,sh' b∨abh b→b<w.heap.size):LY w t n dv pr sh' abh:=
 ⟨Y.tk,Y.DZ,Y.apart,fun b g k M o hb h ho=>(h1 b g k M o h ho).1 hb,fun b g k M o h ho hf=>(h1 b g k M o h ho).2 hf,h2,h3⟩
theorem LY.O7{pr':Rk}(Y:LY w t n dv pr sh hid)(h:∀g,pr' g=pr g):LY w t n dv pr' sh hid:=by
 have:pr'=pr:=funext h
 rw[this];exact Y
theorem WW.at{g:Nat}{k:Hp}{M:Nat→Prop}(h:WW w t g k M)(d:Nat):WW (w.at d) t g k M:=⟨h.uG,h.dom,h.own,h.rd⟩
theorem LY.at(Y:LY w t n dv pr sh hid)(d:Nat):LY (w.at d) t n dv pr sh hid:=⟨Y.tk,fun g k M h=>(Y.DZ g k M h).at d,Y.apart,Y.Ij,Y.fk,Y.uH,Y.lt⟩
end
end Go.aS

/- The machine: what holds of it, inside a group and outside. Conditions: none; over any program. -/
namespace Go.aS
open Go.Conc (crowd parked rcase scase QuitsIn QuitsD Before Knows knows_own touchAt touchAt_of touchAt_old getElem?_append_old getElem?_append_cases lt_size_of_getElem? touch_of hb_po hb_app ofEvents_eq woken Deaf deaf_old g?_old act?_old heard_old lt_of_act? Deaf_own Deaf_other)
open Go.ConcM (OsLater)
inductive WM(P:Program)(γ:GP)(j:Nat) where
 | run {g:Goroutine} {k:Hp} {M:Nat→Prop} (T:yU P γ j g k M)
 | vF (E:LS→Goroutine→Prop) (k:Hp) (M:Nat→Prop) (hm:γ.mu≠none) (hk:k γ.Mu=some (gK .out)) (hM:M γ.Mu) (hE:∀s g',E s g'→∃o B,s= .mu .hold o B 0 1)
   (h:∀s g' l c,E s g'→γ.J l c→k γ.C=none→¬M γ.C→yU P γ j g' (hset (hset k γ.Mu (gK (.hold l))) γ.C c) (fun b=>M b∨b=γ.C)) (tk:Option (List Nat×Obj)) {s:LS} {g:Goroutine} (T:dB P false (aJ γ.toGrp) E s g)
 | xY (E:LS→Goroutine→Prop) (k:Hp) (M:Nat→Prop) (hm:γ.mu≠none) (hk:k γ.Mu=some (gK .fin)) (hM:M γ.Mu) (t:Nat) (ht:γ.tag j=some t) (hE:∀s g',E s g'→∃o B,s= .mu .fin o B 0 2)
   (h:∀s g',E s g'→yU P γ j g' k M) (tk:Option (List Nat×Obj)) {s:LS} {g:Goroutine} (T:dB P false (aJ γ.toGrp) E s g)
 | fin (pre:Option (Hp×(Nat→Prop)×ah)) {s:LS} {g:Goroutine} (T:dB P false (aJ γ.toGrp) (Gone P) s g)
 | I4 {g:Goroutine} (n:Nat) (h:QuitsIn P n g)

section
variable{P:Program}{γ:GP}{j:Nat}
def WM.g:WM P γ j→Goroutine
 | .run (g:=g) _=>g
 | .vF (g:=g) .. =>g
 | .xY (g:=g) .. =>g
 | .fin (g:=g) _ _=>g
 | .I4 (g:=g) .. =>g
theorem WM.status(m:WM P γ j):m.g.status= .running∨m.g.status= .finished:=by
 cases m with
 | run T=>exact .inl T.status
 | vF E k M hm hk hM hE h tk T=>exact .inl T.status
 | xY E k M hm hk hM t ht hE h tk T=>exact .inl T.status
 | fin pre T=>exact .inl T.status
 | I4 n h=>exact h.status
def WM.act:WM P γ j→Option (Hp×(Nat→Prop))
 | .run (k:=k) (M:=M) _=>some (k,M)
 | .vF _ k M .. =>some (k,M)
 | .xY _ k M .. =>some (k,M)
 | .fin pre _=>pre.map fun q=>(q.1,q.2.1)
 | .I4 .. =>none
noncomputable def vG(γ:GP)(k:Hp):MR:=by
 classical exact if γ.mu=none then .fin else if k γ.Mu=some (gK .out)then .out else if∃l,k γ.Mu=some (gK (.hold l))then .hold else .fin
def LS.r:LS→MR
 | .mu r .. =>r
 | _=>.fin
def LS.d:LS→Nat
 | .mu _ _ _ d _=>d
 | .wg _ d=>d
 | .dn _ d=>d
def LS.wr:LS→WR
 | .dn r _=>r
 | _=>.live
def WM.deaf:WM P γ j→Nat
 | .vF (s:=s) .. =>s.d
 | .xY (s:=s) .. =>s.d
 | .fin (s:=s) _ _=>s.d
 | _=>0
end
end Go.aS

/- A group in numbers: how its workers stand to the mutex and to the wait group, what the shared cells hold; kept by every act. Conditions: none; no program in sight. -/
namespace Go.aS
structure WA where
 r:MR
 wr:WR
 il:Bool
 old:Option Nat
 B:Nat

def cR(as:List WA):Cn:=fun r=>(as.map (·.r)).count r
def cW(as:List WA):Wn:=fun r=>(as.map (·.wr)).count r

theorem count_set{α:Type}[DecidableEq α]{l:List α}{i:Nat}{a b:α}(h:l[i]? =some a)(q:α):(l.set i b).count q+(if a=q then 1 else 0)=l.count q+(if b=q then 1 else 0):=by
 induction l generalizing i with
 | nil=>simp at h
 | cons y l ih=>
  cases i with
  | zero=>
   simp only[List.getElem?_cons_zero,Option.some.injEq]at h
   subst h
   simp only[List.set_cons_zero,List.count_cons,beq_iff_eq]
   omega
  | succ i=>
   simp only[List.getElem?_cons_succ]at h
   have:=ih h
   simp only[List.set_cons_succ,List.count_cons,beq_iff_eq]
   omega
theorem uI{as:List WA}{i:Nat}{a a':WA}(h:as[i]? =some a):Mv (cR as) a.r a'.r (cR (as.set i a')):=by
 intro q
 have h':(as.map (·.r))[i]? =some a.r:=by simp[h]
 have:=count_set (b:=a'.r) h' q
 simpa[cR,List.map_set]using this
theorem zq{as:List WA}{i:Nat}{a a':WA}(h:as[i]? =some a):Wv (cW as) a.wr a'.wr (cW (as.set i a')):=by
 intro q
 have h':(as.map (·.wr))[i]? =some a.wr:=by simp[h]
 have:=count_set (b:=a'.wr) h' q
 simpa[cW,List.map_set]using this
theorem rJ{as:List WA}{i:Nat}{a:WA}(h:as[i]? =some a):0<cR as a.r:=List.count_pos_iff.2 (List.mem_map.2 ⟨a,List.mem_of_getElem? h,rfl⟩)
theorem Rl{as:List WA}{i:Nat}{a:WA}(h:as[i]? =some a):0<cW as a.wr:=List.count_pos_iff.2 (List.mem_map.2 ⟨a,List.mem_of_getElem? h,rfl⟩)
theorem UY{as:List WA}{r:MR}(h:0<cR as r):∃(i:Nat) (a:WA),as[i]? =some a∧a.r=r:=by
 obtain⟨a,h1,h2⟩:=List.mem_map.1 (List.count_pos_iff.1 h)
 obtain⟨i,hi⟩:=List.getElem?_of_mem h1
 exact⟨i,a,hi,h2⟩
theorem UZ{as:List WA}{r:WR}(h:0<cW as r):∃(i:Nat) (a:WA),as[i]? =some a∧a.wr=r:=by
 obtain⟨a,h1,h2⟩:=List.mem_map.1 (List.count_pos_iff.1 h)
 obtain⟨i,hi⟩:=List.getElem?_of_mem h1
 exact⟨i,a,hi,h2⟩
theorem count_le{α:Type}[DecidableEq α](l:List α)(q:α):l.count q≤l.length:=List.count_le_length
theorem WY{as:List WA}{a:WA}(q:MR):cR (as++[a]) q=cR as q+(if q=a.r then 1 else 0):=by
 simp only[cR,List.map_append,List.count_append,List.map_cons,List.map_nil,List.count_cons,List.count_nil,beq_iff_eq,Nat.zero_add]
 congr 1
 by_cases h:a.r=q
 ·rw[if_pos h,if_pos h.symm]
 ·rw[if_neg h,if_neg (Ne.symm h)]
theorem abj{as:List WA}{a:WA}(q:WR):cW (as++[a]) q=cW as q+(if q=a.wr then 1 else 0):=by
 simp only[cW,List.map_append,List.count_append,List.map_cons,List.map_nil,List.count_cons,List.count_nil,beq_iff_eq,Nat.zero_add]
 congr 1
 by_cases h:a.wr=q
 ·rw[if_pos h,if_pos h.symm]
 ·rw[if_neg h,if_neg (Ne.symm h)]

def U0(a:WA)(x:XS):Prop:=a.il=true→(∀o,a.old=some o→x.E≤a.B∧(x.m.st≠o→x.E<a.B))∧(a.old=none→x.E<a.B)∧(a.r= .hnd→∀o,a.old=some o→o / 8≤x.m.n)

structure N1(left:Nat)(p:MP)(x:XS)(as:List WA):Prop where
 tV:jD x.m (cR as)
 Ik:fQ x.g p (cW as)
 E:x.E=en (cR as) x.m.ms left
 snap:∀(i:Nat) (a:WA),as[i]? =some a→U0 a x
 num:as.length+left≤63
 tok:∀t,p= .add t→t≤1
 live:∀(i:Nat) (a:WA),as[i]? =some a→a.wr≠ .live→a.r= .fin

structure Mon(x x':XS)(me:MR):Prop where
 le:x'.E≤x.E
 lt:x'.m.st≠x.m.st→x'.E<x.E
 n:me≠ .hnd→x.m.s=1→x.m.n≤x'.m.n

section
variable{left:Nat}{p:MP}{x x':XS}{as:List WA}{i:Nat}{a a':WA}
theorem U0.mon{b:WA}(h:U0 b x)(m:Mon x x' a.r)(hn:a.r= .hnd→b.r≠ .hnd)(hs:b.r= .hnd→x.m.s=1):U0 b x':=by
 intro hb
 obtain⟨h1,h2,h3⟩:=h hb
 have m1:=m.le
 refine⟨fun o ho=>?_,fun ho=>?_,fun hr o ho=>?_⟩
 ·obtain⟨h4,h5⟩:=h1 o ho
  refine⟨by omega,fun hne=>?_⟩
  by_cases he:x'.m.st=x.m.st
  ·rw[he]at hne;have:=h5 hne;omega
  ·have:=m.lt he;omega
 ·have:=h2 ho;omega
 ·have:=h3 hr o ho
  have:=m.n (fun e=>hn e hr) (hs hr)
  omega

theorem fJ{α:Type}{l:List α}{i j:Nat}{b y:α}(h:(l.set i b)[j]? =some y):(j=i∧y=b∧i<l.length)∨(j≠i∧l[j]? =some y):=by
 rw[List.getElem?_set]at h
 split at h
 ·rename_i e
  subst e
  split at h
  ·rename_i hl
   cases h
   exact .inl ⟨rfl,rfl,hl⟩
  ·cases h
 ·rename_i e
  exact .inr ⟨fun x=>e x.symm,h⟩

theorem N1.OY(H:N1 left p x as)(h:0<cR as .hnd):x.m.s=1:=(H.tV.OY h).1
theorem N1.Zq(H:N1 left p x as):cR as .hnd≤1:=by
 obtain⟨a0,a1,a2,a3⟩:=H.tV;omega

theorem N1.mu(H:N1 left p x as)(hi:as[i]? =some a)(hwr:a'.wr=a.wr)(hwl:a.wr= .live)(hg:x'.g=x.g)(hm:jD x'.m (cR (as.set i a')))(hE:x'.E=en (cR (as.set i a')) x'.m.ms left)(hmon:Mon x x' a.r)(hs:U0 a' x'):N1 left p x' (as.set i a'):=by
 have hcw:cW (as.set i a')=cW as:=by
  funext q
  have:=zq (a':=a') hi q
  rw[hwr]at this
  omega
 refine⟨hm,by rw[hcw,hg];exact H.Ik,hE,fun j b hj=>?_,by rw[List.length_set];exact H.num,H.tok,fun j b hj hb=>?_⟩
 ·rcases fJ hj with⟨rfl,rfl,_⟩ | ⟨hne,hj⟩
  ·exact hs
  ·refine(H.snap j b hj).mon hmon (fun ha hb=>?_) fun hb=>H.OY (by rw[←hb];exact rJ hj)
   have h1:=uI (a':={a' with r:=.fin}) hi .hnd
   have h2:0<cR (as.set i {a' with r:=.fin}) .hnd:=by
    have:(as.set i {a' with r:=.fin})[j]? =some b:=by rw[List.getElem?_set,if_neg (Ne.symm hne)];exact hj
    rw[←hb];exact rJ this
   have h3:=H.Zq
   simp only[ha,if_true,reduceCtorEq,if_false]at h1
   omega
 ·rcases fJ hj with⟨rfl,rfl,_⟩ | ⟨hne,hj⟩
  ·exact absurd (hwr.trans hwl) hb
  ·exact H.live j b hj hb

theorem N1.wg(H:N1 left p x as)(hi:as[i]? =some a)(hr:a'.r=a.r)(hil:a'.il=false)(hfin:a'.wr≠ .live→a'.r= .fin){p':MP}{g':DV}(hw:fQ g' p' (cW (as.set i a')))(ht:∀t,p'= .add t→t≤1):N1 left p' {x with g:=g'} (as.set i a'):=by
 have hcr:cR (as.set i a')=cR as:=by
  funext q
  have:=uI (a':=a') hi q
  rw[hr]at this
  omega
 refine⟨by rw[hcr];exact H.tV,hw,by rw[hcr];exact H.E,fun j b hj=>?_,by rw[List.length_set];exact H.num,ht,fun j b hj hb=>?_⟩
 ·rcases fJ hj with⟨rfl,rfl,_⟩ | ⟨hne,hj⟩
  ·intro h;rw[hil]at h;cases h
  ·exact H.snap j b hj
 ·rcases fJ hj with⟨rfl,rfl,_⟩ | ⟨hne,hj⟩
  ·exact hfin hb
  ·exact H.live j b hj hb
theorem N1.main(H:N1 left p x as){p':MP}{g':DV}(hw:fQ g' p' (cW as))(ht:∀t,p'= .add t→t≤1):N1 left p' {x with g:=g'} as:=⟨H.tV,hw,H.E,H.snap,H.num,ht,H.live⟩

theorem N1.WJ(H:N1 left p x as):x.m.n≤64∧x.m.ms≤64∧x.g.v≤64∧x.g.w≤1∧x.g.ws≤1:=by
 have h1:=H.tV.WJ
 have hn:=H.num
 have hc:∀q,cR as q≤as.length:=fun q=>by have:=count_le (as.map (·.r)) q;simpa[cR]using this
 have hcw:∀q,cW as q≤as.length:=fun q=>by have:=count_le (as.map (·.wr)) q;simpa[cW]using this
 obtain⟨a0,a1,a2,a3⟩:=H.tV
 have hs:=H.Ik.small H.tok
 have e1:=hc .AP;have e2:=hc .tok;have e3:=hc .hnd
 have e4:=hcw .live;have e5:=hcw .s1
 have hsum:cR as .AP+cR as .tok+cR as .hnd≤as.length:=by
  have key:∀l:List MR,l.count .AP+l.count .tok+l.count .hnd≤l.length:=by
   intro l
   induction l with
   | nil=>simp
   | cons y l ih=>cases y <;>simp only[List.count_cons,List.length_cons] <;>simp <;>omega
  have:=key (as.map (·.r))
  simpa[cR]using this
 have afQ:cW as .live+cW as .s1≤as.length:=by
  have key:∀l:List WR,l.count .live+l.count .s1≤l.length:=by
   intro l
   induction l with
   | nil=>simp
   | cons y l ih=>cases y <;>simp only[List.count_cons,List.length_cons] <;>simp <;>omega
  have:=key (as.map (·.wr))
  simpa[cW]using this
 refine⟨by omega,?_,by omega,hs.2.1,hs.2.2⟩
 by_cases h:x.m.s=0
 ·have:=a2 h;omega
 ·have:=a3 (by omega);omega
end
end Go.aS
