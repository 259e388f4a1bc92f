/- What is reached in so many steps, as the laws find it. Conditions: none; no program in sight. (And 21 texts more.) -/
import Derived.Test.YtkkdgffaohidnaaGreatDoorR10
import Derived.Test.YtkkdgffaohidnaaGreatDoorR13
import Derived.Test.YtkkdgffaohidnaaGreatDoorR11
set_option linter.unusedVariables false
set_option linter.unusedSimpArgs false
set_option linter.unusedSectionVars false

/- What is reached in so many steps, as the laws find it. Conditions: none; no program in sight. -/
namespace Go.aS
set_option linter.unusedVariables false
def Le(ps:List Pn)(q o:Nat):Bool:=ps.any fun p=>p.takes q&&decide ((p.out q).toNat=o)
def Lh(ps:List Pn)(f:Nat→Bool)(k o:Nat):Bool:=(List.range k).any fun q=>f q&&Le ps q o
def acj(ps:List Pn)(f:Nat→Bool):Nat→Bool:=Lh ps f 13
def EY(ps:List Pn)(f:Nat→Bool)(q i o:Nat):Bool:=Lh ps f q o|| (f q&&Le (ps.take i) q o)
theorem V3{ps:List Pn}{f:Nat→Bool}{q:Nat}:EY ps f q 0=Lh ps f q:=by funext o;simp[EY,Le]
theorem V4{ps:List Pn}{f:Nat→Bool}{q o:Nat}:Lh ps f (q+1) o=(Lh ps f q o|| (f q&&Le ps q o)):=by
 simp[Lh,List.range_succ]
theorem QG{ps:List Pn}{f:Nat→Bool}{q i:Nat}(h:i=ps.length∨f q=false):EY ps f q i=Lh ps f (q+1):=by
 funext o
 rw[V4,EY]
 rcases h with rfl | h
 ·rw[List.take_length]
 ·rw[h];simp
theorem MH{ps:List Pn}{q i o:Nat}{p:Pn}(h:ps[i]? =some p):Le (ps.take (i+1)) q o=(Le (ps.take i) q o|| (p.takes q&&decide ((p.out q).toNat=o))):=by
 rw[Le,List.take_add_one,h,List.any_append];simp[Le]
theorem YT{ps:List Pn}{f:Nat→Bool}{q i:Nat}{p:Pn}(h:ps[i]? =some p)(hf:f q=true)(ht:p.takes q=true):EY ps f q (i+1)=fun o=>if o=(p.out q).toNat then true else EY ps f q i o:=by
 funext o
 rw[EY,EY,MH h,hf,ht]
 by_cases e:o=(p.out q).toNat
 ·simp[e]
 ·rw[if_neg e,decide_eq_false (fun h=>e h.symm)];simp
theorem MI{ps:List Pn}{f:Nat→Bool}{q i:Nat}{p:Pn}(h:ps[i]? =some p)(ht:p.takes q=false):EY ps f q (i+1)=EY ps f q i:=by
 funext o
 rw[EY,EY,MH h,ht];simp
def OD(ps:List Pn)(q:Nat):Nat→Nat→Bool
 | 0=>fun o=>decide (o=q)
 | n+1=>acj ps (OD ps q n)
theorem QH{ps:List Pn}{q o:Nat}(h4:ps.length≤4):Le ps q o=true↔∃i,(i,o)∈dO ps 0 q:=by
 simp only[Le,List.any_eq_true,Bool.and_eq_true,decide_eq_true_eq,Um,Ak]
 constructor
 ·rintro⟨p,hp,h1,h2⟩
  obtain⟨i,hi⟩:=List.getElem?_of_mem hp
  have hil:i<ps.length:=by
   rcases Nat.lt_or_ge i ps.length with h' | h'
   ·exact h'
   ·rw[List.getElem?_eq_none h']at hi;cases hi
  refine⟨i,⟨by omega,by simp[P9,hi,h1],by simp⟩,?_⟩
  rw[gy,hi];exact h2.symm
 ·rintro⟨i,⟨h1,h2,_⟩,rfl⟩
  unfold P9 at h2
  split at h2
  ·rename_i p hp
   exact⟨p,List.mem_of_getElem? hp,h2,by rw[gy,hp]⟩
  ·cases h2
theorem EZ{ps:List Pn}{q:Nat}(h4:ps.length≤4)(hq:q<13):∀{n o:Nat},OD ps q n o=true↔∃v,v.length=n∧qJ (dO ps 0) q v o
 | 0,o=>by
  simp only[OD,decide_eq_true_eq]
  constructor
  ·rintro rfl;exact⟨[],rfl,rfl⟩
  ·rintro⟨v,hv,hg⟩
   obtain rfl:=List.length_eq_zero_iff.1 hv
   exact hg.symm
 | n+1,o=>by
  simp only[OD,acj,Lh,List.any_eq_true,List.mem_range,Bool.and_eq_true]
  constructor
  ·rintro⟨m,hm,h1,h2⟩
   obtain⟨v,hv,hg⟩:=(EZ h4 hq).1 h1
   obtain⟨i,hi⟩:=(QH h4).1 h2
   exact⟨v++[i],by simp[hv],lW.2 ⟨m,hg,hi⟩⟩
  ·rintro⟨v,hv,hg⟩
   rcases List.eq_nil_or_concat v with rfl | ⟨r,p,rfl⟩
   ·cases hv
   ·rw[List.concat_eq_append]at*
    obtain⟨m,h3,h5⟩:=lW.1 hg
    have hrl:r.length=n:=by simpa using hv
    have hm:m<13:=by
     rcases List.eq_nil_or_concat r with rfl | ⟨r',p',rfl⟩
     ·have:q=m:=h3
      omega
     ·rw[List.concat_eq_append]at h3
      obtain⟨m',_,h6⟩:=lW.1 h3
      exact F9 _ _ _ h6
    exact⟨m,hm,(EZ h4 hq).2 ⟨r,hrl,h3⟩,(QH h4).2 ⟨p,h5⟩⟩
end Go.aS

/- Operations that come up in any order and only add to what is owned. Conditions: none; over any program. -/
namespace Go.aS
abbrev Spc:=Nat×Nat×(Value→ah→Prop)
def waits(ops:Array Oper):Nat→Nat→Nat→Bool
 | 0,_,_=>false
 | n+1,k,b=>match ops[k]? with | some o=>o.after.any fun e=>iG e&&(Nat.beq e.on b|| waits ops n e.on b) | none=>false
structure Y4(ops:Array Oper)(listed:Nat)(B:List Nat):Prop where
 cl:Closed ops listed
 low:∀k o,ops[k]? =some o→∀e∈o.after,iG e=true→e.on<k
 or:∀k,k<ops.size→listed.testBit k=false→k∈B∨∀b∈B,waits ops 6 k b=true
 un:∀b∈B,b<ops.size∧listed.testBit b=false
 nd:B.Nodup

theorem Y4.some{ops:Array Oper}{listed:Nat}{B:List Nat}(h:Y4 ops listed B){b:Nat}(hb:b∈B):qx ops listed≠[]:=by
 have key:∀(n k:Nat),k<n→k<ops.size→listed.testBit k=false→∃i,Fq ops listed i=true:=by
  intro n
  induction n with
  | zero=>intro k hk;omega
  | succ n ih=>
   intro k hk hlt hl
   by_cases hr:Fq ops listed k=true
   ·exact⟨k,hr⟩
   ·simp only[Fq,Array.getElem?_eq_getElem hlt,hl,Bool.not_false,Bool.true_and,Array.all_eq_true_iff_forall_mem,Bool.or_eq_true,Bool.not_eq_true']at hr
    have:∃e∈(ops[k]).after,iG e=true∧listed.testBit e.on=false:=by
     refine Classical.byContradiction fun hn=>hr fun e he=>?_
     cases hbe:iG e with
     | false=>exact .inl rfl
     | true=>
      cases ht:listed.testBit e.on with
      | true=>exact .inr rfl
      | false=>exact absurd ⟨e,he,hbe,ht⟩ hn
    obtain⟨e,he,h1,h2⟩:=this
    have:=h.low k _ (Array.getElem?_eq_getElem hlt) e he h1
    exact ih e.on (by omega) (by omega) h2
 obtain⟨i,hi⟩:=key (b+1) b (by omega) (h.un b hb).1 (h.un b hb).2
 intro e
 have:=o8.2 hi
 rw[e]at this
 cases this

theorem Y4.step{ops:Array Oper}{listed j:Nat}{B1 B2:List Nat}(h:Y4 ops listed (B1++j::B2))(hj:Fq ops listed j=true):Y4 ops (listed||| 2 ^ j) (B1++B2):=by
 have hnd:j∉B1++B2:=by
  have:=(List.perm_middle (a:=j) (l₁:=B1) (l₂:=B2)).nodup_iff.1 h.nd
  exact(List.nodup_cons.1 this).1
 refine⟨h.cl.step hj,h.low,fun k hk hl=>?_,fun b hb=>?_,?_⟩
 ·rw[testBit_or,Bool.or_eq_false_iff]at hl
  have hne:j≠k:=by simpa using hl.2
  rcases h.or k hk hl.1 with h' | h'
  ·left
   rcases List.mem_append.1 h' with h' | h'
   ·exact List.mem_append_left _ h'
   ·rcases List.mem_cons.1 h' with h' | h'
    ·exact absurd h'.symm hne
    ·exact List.mem_append_right _ h'
  ·right
   intro b hb
   refine h' b ?_
   rcases List.mem_append.1 hb with hb | hb
   ·exact List.mem_append_left _ hb
   ·exact List.mem_append_right _ (List.mem_cons_of_mem _ hb)
 ·have hb':b∈B1++j::B2:=by
   rcases List.mem_append.1 hb with hb | hb
   ·exact List.mem_append_left _ hb
   ·exact List.mem_append_right _ (List.mem_cons_of_mem _ hb)
  refine⟨(h.un b hb').1,?_⟩
  rw[testBit_or,(h.un b hb').2,Bool.false_or,decide_eq_false_iff_not]
  rintro rfl
  exact hnd hb
 ·have:=(List.perm_middle (a:=j) (l₁:=B1) (l₂:=B2)).nodup_iff.1 h.nd
  exact(List.nodup_cons.1 this).2

def Adds(x:Cx)(ops:Array Oper)(ε:Ev)(s:Spc):Prop:=
 ∃o,ops[s.1]? =some o∧o.dst=some s.2.1∧d_ o.dst x.n=true∧(∀c,o.op≠ .defer c)∧o.guard=none∧∀e,Cons ε e→∀F,Dx x o e F fun v F'=>∃A Lp,Lp.Perm F'∧s.2.2 v A∧Lp=A++F

theorem Cons.back{ε:Ev}{d:Nat}{v:Value}{e:Operand→Value}(h:Cons (upd ε (some d) v) e)(hd:ε d=none):Cons ε e:=fun y u hy=>h y u (by
 cases y with
 | tmp t=>
  simp only[UK,upd]at hy⊢
  cases hb:Nat.beq t d with
  | true=>rw[Nat.eq_of_beq_eq_true hb,hd]at hy;cases hy
  | false=>exact hy
 | _=>exact hy)

section rules
variable{x:Cx}{Q:Post}{ρ:Env}{ds:List Deferred}{F:ah}{ops:Array Oper}{L:ah}{fuel listed:Nat}
theorem Adds.of{i d:Nat}{P:Value→ah→Prop}{op:Op}{ty:TypeId}{pos:String}{bK:Array Edge}(ho:cO ops.toList i=some ⟨some d,op,ty,pos,bK,none⟩)(hd:Nat.blt d x.n=true)(hn:cu op=true)(H:∀F,Ef x ρ ⟨some d,op,ty,pos,bK,none⟩ F fun v F'=>∃A,P v A∧F'=A++F):Adds x ops (look ρ) (i,d,P):=
 ⟨_,aU ho,rfl,hd,gI hn,rfl,fun e he F=>(H F e fun y v hy=>he y v (by rw[DC];exact hy)).mono fun v F' ⟨Lp,p,A,hv,e⟩=>⟨A,Lp,p,hv,e⟩⟩
theorem Adds.call{i d f:Nat}{P:Value→ah→Prop}{args:List Operand}{ts:Array TypeId}{vs:List Value}{ty:TypeId}{pos:String}{bK:Array Edge}(H:∀h',Ext x.h h'→dV x.P x.main f vs.toArray h' [] P)(ho:cO ops.toList i=some ⟨some d,.call ⟨.value (.func f),args.toArray,ts⟩,ty,pos,bK,none⟩:=by rfl)[FB x.P f](hv:evs ρ args=some vs:=by rfl)(hd:Nat.blt d x.n=true:=by rfl):Adds x ops (look ρ) (i,d,P):=
 .of ho hd rfl fun F=>lQ rfl hv (fun h' hE _=>H h' hE) fun v A' hv=>⟨A',hv,rfl⟩
end rules
end Go.aS
namespace Go.aS
section
variable{α:Type}{row:α→List Value}{w:Nat}[rw':Rw row w]
section
variable{x:Cx}{ρ:Env}{F:ah}{o:Oper}{R:Value→ah→Prop}
end
end
section
variable{x:Cx}{S:ah→Prop}{ρ:Env}{o:Oper}
end
end Go.aS
namespace Go.aS
section
variable{x:Cx}{Q:Post}{ρ:Env}{ds:List Deferred}{ops:Array Oper}{G:ah}{y₁ y₂ y₃ y₄ agp agq:Nat×Obj}{id n:Nat}
end
end Go.aS
namespace Go.aS
end Go.aS

/- Slices of slices; makeSlice. Conditions: none; over any program. -/
namespace Go.aS
structure Sv where
  a:Option Addr
  n:Nat
  cap:Nat
abbrev Sv.val(s:Sv):Value:=.slice s.a s.n s.cap
section
variable{α:Type}{row:α→List Value}{w:Nat}[rw':Rw row w]{E:TypeId}
inductive UG(E:TypeId)(row:α→List Value)[Rw row w]:List Sv→List (List α)→ah→Prop
  | nil:UG E row [] [] []
  | cons {s:Sv} {l:List α} {A B:ah} {vs:List Sv} {ls:List (List α)}:Os E row s.val l A→UG E row vs ls B→UG E row (s::vs) (l::ls) (A++B)
theorem UG.len{vs:List Sv}{ls:List (List α)}{A:ah}(h:UG E row vs ls A):vs.length=ls.length:=by
  induction h with
  | nil=>rfl
  | cons _ _ ih=>simp[ih]
theorem UG.shut{vs:List Sv}{ls:List (List α)}{A:ah}(h:UG E row vs ls A):Shut A:=by
  induction h with
  | nil=>exact .nil
  | cons h _ ih=>exact h.shut.app ih
theorem UG.sl{vs:List Sv}{ls:List (List α)}{A:ah}{h':Hp}(h:UG E row vs ls A)(hL:∀b o,(b,o)∈A→h' b=some o):∀{k:Nat} {s:Sv} {l:List α},vs[k]? =some s→ls[k]? =some l→Sl h' row s.val l:=by
  induction h with
  | nil=>intro k s l hs;simp at hs
  | cons h1 _ ih=>
    intro k s l hs hl
    rcases k with _ | k
    · simp at hs hl;subst hs hl
      exact h1.sl fun b o hb=>hL b o (List.mem_append_left _ hb)
    · simp at hs hl
      exact ih (fun b o hb=>hL b o (List.mem_append_right _ hb)) hs hl
end
/-! makeSlice -/
section
variable{x:Cx}{ρ:Env}{F:ah}{o:Oper}{R:Value→ah→Prop}
theorem G8{t E by' n:Nat}{z:Value}{y y':Operand}(ho:o.op= .makeSlice t y y')[TD x.P t (.slice E)][TI x.P E 1 by' z #[z]](hy:ev ρ y=some (.int .i64 (n:Int)))(hy':ev ρ y'=some (.int .i64 (n:Int)))(hb:by'*n≤2 ^ 48∧n≤1000000)
    (K:∀β,R (.slice (some ⟨β,0,none⟩) n n) ((β,.cells (List.replicate n z).toArray E (0,0))::F)):Ef x ρ o F R:=
  Ef.xW fun e he h' hE=>by
    obtain⟨j,hj,hj1,hj2,hj3,hj4⟩:=TI.out (inferInstance:TI x.P E 1 by' z #[z])
    have hw:IntKind.i64.wrap (n:Int)=n:=nC (by omega) (by omega)
    have c1:¬((n:Int)<0):=by omega
    have c2:¬((by':Int)*(n:Int)>2 ^ 48):=by
                                                         have:((by'*n:Nat):Int)≤2 ^ 48:=by exact_mod_cast hb.1
                                                         rw[Int.natCast_mul]at this;omega
    have c3:¬((n:Int)>n):=by omega
    simp only[execOp,ho,he y _ hy,he y' _ hy',Instr.makeSlice,asInt,asIntOf,bind_eq,au,bind_assoc,bind_pure,aC,dJ hj,hj2,hw]
    simp only[c1,c2,c3,decide_false,Bool.or_false,Bool.false_eq_true,if_false]
    have room:∀{β:Type} {f:Unit→Sem β} {Q':β→ah→Prop},tr x.P h' (f ()) F Q'→tr x.P h' ((askRoom (((n:Int).toNat)*by')).bind f) F Q':=by
      intro β f Q' H
      unfold askRoom
      split
      · exact⟨rfl,H⟩
      · exact H
    refine bJ (room ?_)
    simp only[dH,Int.toNat_natCast,Nat.mul_one]
    have harr:(Array.range n).map (fun i=>(#[z]:Array Value)[i % (#[z]:Array Value).size]!)=(List.replicate n z).toArray:=by
      apply Array.ext
      · simp
      · intro i h1 h2
        simp[Nat.mod_one]
    by_cases h0:n=0
    · subst h0
      have e0:(Array.range 0).map (fun x=>(#[]:Array Value)[x % (#[]:Array Value).size]!)=(List.replicate 0 z).toArray:=by simp
      simp only[if_true,newRow,bind_eq,au,bind_assoc,bind_pure,e0]
      exact wI fun r h1 h2=>⟨_,.inl rfl,K r⟩
    · simp only[if_neg h0,fG,hj4,newRow,bind_eq,au,bind_assoc,bind_pure,harr]
      exact wI fun r h1 h2=>⟨_,.inl rfl,K r⟩
end
end Go.aS

/- Sets of qualities, as the laws keep them. Conditions: none; over the given program. -/
namespace Go.aS
set_option maxRecDepth 100000
set_option maxHeartbeats 4000000
abbrev V9(β:Nat):Value:=.slice (some ⟨β,0,none⟩) 13 13
abbrev bsO(f:Nat→Bool):Obj:=.cells (bA f) RS (0,0)
theorem QI:(List.replicate 13 (Value.bool false)).toArray=bA fun _=>false:=rfl
theorem V5(main:Side)(h:Hp)(q:Nat)(hq:q<13):dV prog main Ej #[I q] h [] (fun v A=>∃β,v=V9 β∧A=[(β,bsO fun o=>decide (o=q))]):=by
 refine dV.aG KE rfl (by show 1≤9;decide) [(0,I q)] ⟨rfl,trivial⟩ ?_
 have hsz:0+q*1<(bA fun _=>false).size:=by rw[nX];omega
 refine W.seq<|W.region rfl<|agb rfl rfl rfl<|pq<|W.seq<|W.region rfl ?_
 refine oe rfl wn rfl rfl (G8 (n:=13) rfl rfl rfl (by decide) (fun wC=>?_))
 rw[QI]
 refine agb rfl rfl rfl<|pq<|W.seq<|W.region rfl<|qm rfl rfl rfl<|qm rfl rfl rfl ?_
 refine ag3 rfl ?_
 refine Ops.yG ?_
 refine pq<|W.seq<|W.region rfl<|qm rfl rfl rfl<|agb rfl rfl rfl<|pq<|W.ret ?_
 refine mg (vs:=[_]) ⟨wC,rfl,?_⟩
 have e:(bA fun _=>false).setIfInBounds (0+q*1) (.bool true)=bA fun o=>decide (o=q):=by
  rw[show 0+q*1=q by omega,Og hq]
  exact qg fun i _=>by by_cases e:i=q <;>simp[e]
 rw[e]
theorem Y5(main:Side)(h:Hp)(ps:List Pn)(vp:Value)(f:Nat→Bool)(β:Nat)(E:TypeId)(z:Nat×Nat)(hf:Sl h Pn.row vp ps)(hok:iP ps)(hb:h β=some (.cells (bA f) E z)):dV prog main GK #[vp,V9 β] h [] (fun v A=>∃β',v=V9 β'∧Sb [(β',bsO (acj ps f))] A):=by
 obtain⟨a,cap,rfl⟩:=hf.dA
 have h4:=hok.len
 refine dV.aG NY rfl (by show 2≤50;decide) [(0,.slice a ps.length cap),(1,V9 β)] ⟨rfl,rfl,trivial⟩ ?_
 refine W.seq<|W.region rfl<|agb rfl rfl rfl<|pq<|W.seq<|W.region rfl ?_
 refine oe rfl wn rfl rfl (G8 (n:=13) rfl rfl rfl (by decide) (fun yD=>?_))
 rw[QI]
 refine agb rfl rfl rfl<|pq<|W.seq<|W.seq<|W.region rfl<|agb rfl rfl rfl<|pq<|W.block ?_
 refine W.loop (σ:=Nat) (fun q=>q≤13) (fun q=>[(6,I q),(5,V9 yD),(0,.slice a ps.length cap),(1,V9 β)]) (fun q=>[(yD,bsO (Lh ps f q))]) (fun q=>13-q) 0 (Nat.zero_le _) ⟨rfl,rfl,rfl,rfl,trivial⟩ (.eq (eqc (qg fun i _=>by simp[Lh]))) ?_
 rintro q hq
 refine W.seq<|W.seq<|W.region rfl<|qm rfl rfl rfl ?_
 refine agW (Lr rfl rfl rfl) rfl ?_
 refine pq ?_
 refine W.bC rfl (fun c10=>?_) (fun c10=>?_)
 ·have Dn:q<13:=by omega
  have hfq:(bA f)[0+q*1]? =some (.bool (f q)):=by rw[show 0+q*1=q by omega];exact L9 Dn
  refine W.skip<|aA<|W.seq<|W.block<|W.seq<|W.region rfl<|agb rfl rfl rfl<|pq<|W.block ?_
  refine W.loop (σ:=Nat) (fun i=>i≤ps.length) (fun i=>[(7,I i),(6,I q),(5,V9 yD),(0,.slice a ps.length cap),(1,V9 β)]) (fun i=>[(yD,bsO (EY ps f q i))]) (fun i=>ps.length-i) 0 (Nat.zero_le _) ⟨rfl,rfl,rfl,rfl,rfl,trivial⟩ (.eq (by rw[V3])) ?_
  rintro i hi
  refine W.seq<|W.seq<|W.region rfl<|qm rfl rfl rfl<|qm rfl rfl rfl ?_
  refine agW (dM rfl rfl) rfl ?_
  refine agW (fO rfl rfl rfl) rfl ?_
  refine qm rfl rfl rfl ?_
  refine Ops.ask (fun abY=>?_) (fun abY=>?_)
  ·refine oq (aN rfl rfl) rfl (ak rfl rfl rfl) rfl rfl ?_
   refine oq (aN rfl rfl) rfl (ak rfl rfl rfl) rfl rfl ?_
   first | refine oq (G_ rfl rfl rfl) rfl (ak rfl rfl rfl) rfl rfl ?_ | refine oq (o_ rfl rfl rfl) rfl (ak rfl rfl rfl) rfl rfl ?_
   refine oq (iQ rfl rfl) rfl (ak rfl rfl rfl) rfl rfl ?_
   refine agW (dG rfl rfl rfl) rfl ?_
   refine pq ?_
   refine W.cond rfl (fun Qc=>?_) (fun Qc=>?_)
   ·have hil:i<ps.length:=by omega
    obtain⟨p,hp,-⟩:=has hil
    have hpi:=hok.pan p (List.mem_of_getElem? hp)
    obtain⟨b,off,c,E2,fz,rfl,hbb,hx,hy,hz⟩:=hf.at hp
    have hx':c.extract (off+i*3) (off+i*3+3)= #[I p.lo,I p.hi,I p.sh]:=hx
    have hz0:c[off+i*3+0]? =some (I p.lo):=hz 0 (by decide)
    have hz1:c[off+i*3+1]? =some (I p.hi):=hz 1 (by decide)
    clear hx hz
    obtain⟨on,hon⟩:∃on:Nat,p.out q=on:=⟨(p.out q).toNat,by unfold Pn.out;omega⟩
    have aec:on<13:=by unfold Pn.out at hon;omega
    have hsz:0+on*1<(bA (EY ps f q i)).size:=by rw[nX];omega
    refine W.skip<|aA<|W.seq<|W.block<|W.seq<|W.region rfl<|qm rfl rfl rfl<|qm rfl rfl rfl<|qm rfl rfl rfl ?_
    refine ag3 rfl ?_
    refine agY rfl ?_
    refine agX rfl ?_
    refine agW (IJ rfl rfl rfl) rfl ?_
    refine qm rfl rfl rfl ?_
    refine Ops.ask (fun afI=>?_) (fun afI=>?_)
    ·refine oq (aN rfl rfl) rfl (ak rfl rfl rfl) rfl rfl ?_
     refine oq (aN rfl rfl) rfl (ak rfl rfl rfl) rfl rfl ?_
     refine oq (aN rfl rfl) rfl (ak rfl rfl rfl) rfl rfl ?_
     first | refine oq (G_ rfl rfl rfl) rfl (ak rfl rfl rfl) rfl rfl ?_ | refine oq (o_ rfl rfl rfl) rfl (ak rfl rfl rfl) rfl rfl ?_
     refine oq (ay rfl rfl) rfl (ak rfl rfl rfl) rfl rfl ?_
     refine oq (iQ rfl rfl) rfl (ak rfl rfl rfl) rfl rfl ?_
     refine oq (Lr rfl rfl rfl) rfl (ak rfl rfl rfl) rfl rfl ?_
     refine agW (dG rfl rfl rfl) rfl ?_
     refine pq ?_
     refine W.bC rfl (fun c40=>?_) (fun c40=>?_)
     ·refine W.region rfl<|qm rfl rfl rfl<|qm rfl rfl rfl<|qm rfl rfl rfl ?_
      refine ag3 rfl ?_
      refine ag2 rfl ?_
      refine qm rfl rfl rfl ?_
      refine cp (fun h' hE hL=>ab_ _ h' p q (by omega) (by omega)) ?_
      rw[hon]
      refine ag3 rfl ?_
      refine Ops.yG ?_
      refine Ops.nil<|dI<|aA<|W.region rfl<|qm rfl rfl rfl ?_
      refine ag1 rfl ?_
      refine agb rfl rfl rfl<|pq ?_
      have ht:p.takes q=true:=by simp only[Pn.takes,Bool.and_eq_true,decide_eq_true_eq];omega
      refine⟨rfl,i+1,hil,by omega,⟨rfl,rfl,rfl,rfl,rfl,trivial⟩,.eq ?_⟩
      rw[show 0+on*1=on by omega,Og aec,YT hp Qc ht,hon]
      rfl
     ·refine W.skip<|dI<|aA<|W.region rfl<|qm rfl rfl rfl ?_
      refine ag1 rfl ?_
      refine agb rfl rfl rfl<|pq ?_
      have ht:p.takes q=false:=by
       simp only[Pn.takes,Bool.and_eq_false_iff,decide_eq_false_iff_not]
       first | exact .inr (by omega) | exact .inl (by omega)
      refine⟨rfl,i+1,hil,by omega,⟨rfl,rfl,rfl,rfl,rfl,trivial⟩,.eq ?_⟩
      rw[MI hp ht]
    ·refine Ops.no ?_
     refine Ops.no ?_
     refine Ops.no ?_
     refine Ops.no ?_
     refine Ops.no ?_
     refine Ops.no ?_
     refine Ops.no ?_
     refine agW (iH rfl rfl rfl) rfl ?_
     refine pq ?_
     refine W.bZ ?_
     refine W.skip<|dI<|aA<|W.region rfl<|qm rfl rfl rfl ?_
     refine ag1 rfl ?_
     refine agb rfl rfl rfl<|pq ?_
     have ht:p.takes q=false:=by
      simp only[Pn.takes,Bool.and_eq_false_iff,decide_eq_false_iff_not]
      first | exact .inr (by omega) | exact .inl (by omega)
     refine⟨rfl,i+1,hil,by omega,⟨rfl,rfl,rfl,rfl,rfl,trivial⟩,.eq ?_⟩
     rw[MI hp ht]
   ·refine W.exit<|bP<|bP<|gG<|dI<|aA<|W.region rfl<|qm rfl rfl rfl ?_
    refine ag1 rfl ?_
    refine agb rfl rfl rfl<|pq ?_
    refine⟨rfl,q+1,Dn,by omega,⟨rfl,rfl,rfl,rfl,trivial⟩,.eq ?_⟩
    rw[QG (by first | exact .inr Qc | exact .inl (by omega))]
  ·refine Ops.no ?_
   refine Ops.no ?_
   refine Ops.no ?_
   refine Ops.no ?_
   refine agW (iH rfl rfl rfl) rfl ?_
   refine pq ?_
   refine W.bZ ?_
   refine W.exit<|bP<|bP<|gG<|dI<|aA<|W.region rfl<|qm rfl rfl rfl ?_
   refine ag1 rfl ?_
   refine agb rfl rfl rfl<|pq ?_
   refine⟨rfl,q+1,Dn,by omega,⟨rfl,rfl,rfl,rfl,trivial⟩,.eq ?_⟩
   rw[QG (by first | exact .inr Qc | exact .inl (by omega))]
 ·obtain rfl:q=13:=by omega
  refine W.exit<|bP<|bP<|gG<|aA<|W.seq<|W.region rfl<|qm rfl rfl rfl<|agb rfl rfl rfl<|Ops.nil ?_
  refine aA<|W.ret ?_
  exact mg (vs:=[_]) ⟨yD,rfl,.refl⟩
end Go.aS

/- SyrupLongest. Conditions: none; over the given program. -/
namespace Go.aS
set_option maxRecDepth 100000
set_option maxHeartbeats 4000000
theorem UH{ps:List Pn}{q:Int}(h:nV ps=0)(h0:0≤q)(h1:q≤12):kU ps [q]=0:=by
 have:¬outs q 0 12:=by unfold outs;omega
 simp[kU,h,this]
end Go.aS

/- What goes round for ever comes to a ring. Conditions: none; no program in sight. -/
namespace Go.aS
set_option linter.unusedVariables false
theorem acs{g:yV}(hn:∀k p o,(p,o)∈g k→o<13):∀{v:List Nat} {q e:Nat},q<13→qJ g q v e→e<13
 | [],q,e,hq,h=>by have:q=e:=h;omega
 | p::r,q,e,hq,⟨o,h1,h2⟩=>acs hn (hn _ _ _ h1) h2
end Go.aS

/- All ways of so many steps; the first of them. Conditions: none; no program in sight. -/
namespace Go.aS
set_option linter.unusedVariables false
end Go.aS

/- All lists of so many numbers, as a program makes them; all ascending ones. Conditions: none; no program in sight. -/
namespace Go.aS
set_option linter.unusedVariables false
end Go.aS

/- All lists of so many numbers. Conditions: none; over the given program. -/
namespace Go.aS
set_option maxRecDepth 100000
set_option maxHeartbeats 4000000
end Go.aS

/- Ways, as the laws make them. Conditions: none; over the given program. -/
namespace Go.aS
set_option maxRecDepth 100000
set_option maxHeartbeats 4000000
end Go.aS

/- Comparing truth values. Conditions: none; over any program. -/
namespace Go.aS
section
variable{x:Cx}{ρ:Env}{S:ah→Prop}{o:Oper}{v:Value}
theorem af2{P:Program}{t:TypeId}[TD P t .bool](n:Nat){a b:Bool}{h:Hp}{F:ah}{β:Type}{f:Bool→Sem β}{Q:β→ah→Prop}:tr P h ((Op.equalIn (n+1) t (.bool a) (.bool b)).bind f) F Q=tr P h (f (a==b)) F Q:=by
 simp only[Op.equalIn,bind_eq,au,bind_assoc,bind_pure,aC,if_true]
theorem ajG{t t':TypeId}{y z:Operand}{a b:Bool}(ho:o.op= .binOp .eql t y z t')[TD x.P t .bool](hy:ev ρ y=some (.bool a))(hz:ev ρ z=some (.bool b)):Yv x S ρ o (.bool (a==b)):=fun e he F hF h' hE=>by
 have hg:eqGuard .eql t y z (.bool a) (.bool b)= .pure ():=by unfold eqGuard;split <;>rfl
 simp only[execOp,ho,he y _ hy,he z _ hz,hg,bind_eq,au,bind_assoc,bind_pure,binOp]
 have:= @af2 x.P t _ 9999 a b h' F Next (fun r=>Sem.pure (Next.value (.bool r))) (fun nx F'=>nx= .value (.bool (a==b))∧F'=F)
 refine this.mpr ⟨rfl,rfl⟩
end
end Go.aS

/- Shut blocks are put by. Conditions: none; over any program. -/
namespace Go.aS
theorem W.cut{x:Cx}{c c2:Code}{Q:Post}{ρ:Env}{ds:List Deferred}{F:ah}(L:Env)(G:ah)(H:W x c (fun e ρ' ds' F'=>e= .normal∧ds'=ds∧Sub L ρ'∧Sb G F') ρ ds F)(K:W x c2 Q L ds G):W x c (thn (fun ρ' ds' F'=>W x c2 Q ρ' ds' F') Q) ρ ds F:=
 W.mono H fun e ρ' ds' F' h=>by
  obtain⟨he,hd,hs,hb⟩:=h
  subst he hd
  exact aA (W.env hs (W.sb hb K))
end Go.aS

/- SyrupRing. Conditions: none; over the given program. -/
namespace Go.aS
set_option maxRecDepth 100000
set_option maxHeartbeats 4000000
end Go.aS

/- From where syrups go round for ever: the list. Conditions: none; over the given program. -/
namespace Go.aS
set_option maxRecDepth 100000
set_option maxHeartbeats 4000000
end Go.aS

/- The shortest way to treacle; what treacle comes of a syrup. Conditions: none; over the given program. -/
namespace Go.aS
set_option maxRecDepth 100000
set_option maxHeartbeats 4000000
def shF(ps:List Pn)(c q:Nat):Option Wy:=(Ah (dO ps c) q).find? fun w=>dY ps w.2
theorem ah_(main:Side)(h:Hp)(ps:List Pn)(vp:Value)(c q:Nat)(hf:Sl h Pn.row vp ps)(hok:iP ps)(hc:c<16)(hq:q<13):dV prog main ag6 #[xJ vp c,I q] h [] (fun v A=>∃w S,v= .tuple #[w,.bool (shF ps c q).isSome]∧(∀u,shF ps c q=some u→Vx S w (zs u.1))∧(shF ps c q=none→w= .slice none 0 0)∧Shut S∧Sb S A):=by
 obtain⟨a,cap,rfl⟩:=hf.dA
 refine dV.aG ahp rfl (by show 2≤17;decide) [(0,xJ (.slice a ps.length cap) c),(1,I q)] ⟨rfl,rfl,trivial⟩ ?_
 refine W.seq<|W.region rfl ?_
 refine Ops.box (cs:= #[.slice a ps.length cap,U8 c]) (fun yR=>?_)
 refine Ops.new (fun wC=>?_)
 refine Ops.new (fun mZ=>?_)
 refine pq<|W.seq<|W.seq<|W.region rfl ?_
 refine ag2 rfl ?_
 refine qm rfl rfl rfl ?_
 refine c0 (fun h' hE hL=>Yt _ h' _ c q rfl) (fun v A' hv=>?_)
 obtain⟨b1,b2,rfl,rfl⟩:=hv
 refine pq<|W.block ?_
 refine W.abW (Val:=adG) (xs:=Ah (dO ps c) q) rfl rfl rfl
  (fun k A=>(∀y∈(Ah (dO ps c) q).take k,dY ps y.2=false)∧A=[(mZ,.cells #[.bool false] RS (0,0)),(wC,.cells #[.slice none 0 0] nS (0,0)),(yR,.cells #[.slice a ps.length cap,U8 c] bG (0,0))])
  (fun k v e A=>e= .ret∧∃w vw,(Ah (dO ps c) q)[k]? =some w∧(∀y∈(Ah (dO ps c) q).take k,dY ps y.2=false)∧dY ps w.2=true∧v= .agg #[vw,I w.2]∧A=[(mZ,.cells #[.bool true] RS (0,0)),(wC,.cells #[vw] nS (0,0))])
  (.tail (.tail .all)) ⟨by simp,rfl⟩ (fun h' hE hL=>Qm _ h' ps _ c q b1 b2 _ _ _ _ (hf.ext hE) hok hc (by omega) (hL b1 _ (.head _)) (hL b2 _ (.tail _ (.head _)))) ?_ ?_
 ·rintro k p v S A1 hp ⟨vw,rfl,hv1,hvR⟩ ⟨hno,rfl⟩ l h1 hE1 hL1 hS1
  obtain⟨av,cv,rfl⟩:=(hvR.2 _ hS1).dA
  have hlen:(zs p.1).length=p.1.length:=kT _
  refine W.region rfl ?_
  refine Ops.new (fun yC=>?_)
  refine Ops.jP (vs:= #[.slice av (zs p.1).length cv,I p.2]) ?_
  refine Ops.nil ?_
  refine⟨rfl,rfl,fun h0 hE0 hL0=>?_⟩
  intro hS0
  refine W.block<|W.seq<|W.region rfl ?_
  refine ag2 rfl ?_
  refine agY rfl ?_
  refine agX rfl ?_
  refine cp (fun h' hE hL=>Si _ h' ps _ c p.2 (hf.ext (hE0.trans hE)) hok.len) ?_
  refine pq ?_
  refine W.cond rfl (fun c14=>?_) (fun c14=>?_)
  ·refine W.seq<|W.region rfl ?_
   refine agY rfl ?_
   refine agX rfl ?_
   refine Ops.yG ?_
   refine Ops.yG ?_
   refine pq<|W.ret<|cZ ?_
   exact⟨rfl,.inr ⟨rfl,_,⟨rfl,p,_,hp,hno,c14,rfl,rfl⟩,.skip rfl (.cons (.cons (.nil (.cons rfl .nil))))⟩⟩
  ·refine W.skip<|dI ?_
   exact⟨rfl,.inl ⟨rfl,_,⟨Qn (p:=fun w:Wy=>dY ps w.2) hp hno (by simpa using c14),rfl⟩,.skip rfl .refl⟩⟩
 ·rintro e2 A2 (⟨rfl,hno,rfl⟩ | ⟨k,p,v,S,B,hp,⟨vw,rfl,hv1,hvR⟩,⟨rfl,w,vw',hw,hno,hr,hv,rfl⟩,rfl⟩) d
  ·refine dI<|aA<|W.seq<|W.region rfl ?_
   refine Ops.yG ?_
   refine Ops.yG ?_
   refine pq<|W.ret ?_
   have e3:shF ps c q=none:=Vz hno
   refine lvm (hl:=At.head) (QJ (hv:=rSc (rSc zJ)) ?_)
   rw[e3]
   exact⟨_,[],rfl,(fun u h=>by cases h),(fun _=>rfl),.nil,.nil (by repeat(first | exact Shut.nil | refine Shut.cons rfl ?_))⟩
  ·obtain rfl:=Option.some.inj (hp.symm.trans hw)
   obtain rfl:vw=vw':=by simpa using hv
   have e3:shF ps c q=some p:=Ut hp hno hr
   refine cZ<|aY ?_
   refine lvm (hl:=At.head) (QJ (hv:=rSc (rSc zJ)) ?_)
   rw[e3]
   exact⟨_,S,rfl,(fun u h=>by cases h;exact hvR),(fun h=>by cases h),hvR.1,.skip rfl (.skip rfl (.skip rfl (.skip rfl (.skip rfl .refl))))⟩
def ahU(ps:List Pn)(q:Int):List Nat×Int:=
 if kU ps [q]≠0 then([],kU ps [q])else
  match shF ps 0 q.toNat with
  | some w=>(w.1,0)
  | none=>([],11)
theorem aib(main:Side)(h:Hp)(ps:List Pn)(vp:Value)(q:Int)(hf:Sl h Pn.row vp ps):dV prog main ahi #[vp,I q] h [] (fun v A=>∃w S,v= .tuple #[w,I (ahU ps q).2]∧Vx S w (zs (ahU ps q).1)∧Sb S A):=by
 obtain⟨a,cap,rfl⟩:=hf.dA
 refine dV.aG ahO rfl (by show 2≤29;decide) [(0,.slice a ps.length cap),(1,I q)] ⟨rfl,rfl,trivial⟩ ?_
 refine W.seq<|W.region rfl<|agb rfl rfl rfl<|agb rfl rfl rfl<|pq<|W.seq<|W.region rfl<|qm rfl rfl rfl<|qm rfl rfl rfl ?_
 refine Ops.NK (cs:= #[I q]) (fun X5=>?_) rfl
 refine cp (fun h' hE hL=>Am _ h' ps _ [q] _ (hf.ext hE) (Sl.mk (hL X5 _ (.head _)) rfl (Part.all [I q])) (by simp)) ?_
 refine qm rfl rfl rfl<|oq (bD rfl rfl rfl) rfl wn rfl rfl<|oq (bD rfl rfl rfl) rfl wn rfl rfl ?_
 have hcs:∃cs:Array Value,(if kU ps [q]=0 then xJ (.slice a ps.length cap) 0 else LZ)= .agg cs∧cs.size=2∧ones cs.toList=true:=by
  split <;>exact⟨_,rfl,rfl,rfl⟩
 obtain⟨cs,hcs,hcs2,hcs1⟩:=hcs
 rw[hcs]
 refine Ops.new (fun yC=>?_)
 refine Ops.jP (n:=2) (vs:=cs) ?_ (hy:=by rfl) (hn:=hcs2) (h1:=hcs1)
 refine agb rfl rfl rfl<|pq<|W.seq<|W.seq<|W.region rfl<|qm rfl rfl rfl ?_
 refine agW (nG rfl rfl rfl) rfl ?_
 refine pq ?_
 refine W.bC rfl (fun c18=>?_) (fun c18=>?_)
 ·have e:ahU ps q=([],kU ps [q]):=by rw[ahU,if_pos (by simpa using c18)]
  refine W.seq<|W.region rfl<|qm rfl rfl rfl<|agb rfl rfl rfl<|agb rfl rfl rfl<|pq<|W.ret<|aY ?_
  refine mg (vs:=[_,_]) ?_
  rw[e]
  exact⟨_,[],rfl,⟨.nil,fun _ _=>.nil⟩,.nil (by repeat(first | exact Shut.nil | refine Shut.cons rfl ?_))⟩
 ·have h0:kU ps [q]=0:=by simpa using c18
  obtain⟨hok,hq0,hq12⟩:=Sj h0
  rw[if_pos h0]at hcs
  cases hcs
  obtain⟨q,rfl⟩:∃n:Nat,q=n:=⟨q.toNat,by omega⟩
  have e:ahU ps q=match shF ps 0 q with | some w=>(w.1,0) | none=>([],11):=by rw[ahU,if_neg (by simpa using h0),Int.toNat_natCast]
  refine W.skip<|aA<|W.seq<|W.region rfl ?_
  refine ag2 rfl ?_
  refine qm rfl rfl rfl ?_
  refine c0 (fun h' hE hL=>ah_ _ h' ps _ 0 q (hf.ext hE) hok (by decide) (by omega)) (fun v A' hv=>?_)
  obtain⟨w,S,rfl,hw1,hw2,hSS,hsb⟩:=hv
  refine qm rfl rfl rfl<|oq (bD rfl rfl rfl) rfl wn rfl rfl<|oq (bD rfl rfl rfl) rfl wn rfl rfl<|agb rfl rfl rfl<|agb rfl rfl rfl<|pq<|W.seq<|W.seq<|W.region rfl ?_
  refine qm rfl rfl rfl ?_
  refine agW (xU rfl rfl) rfl ?_
  refine pq ?_
  refine W.cond rfl (fun c27=>?_) (fun c27=>?_)
  ·have e2:shF ps 0 q=none:=by
    cases hh:shF ps 0 q with
    | none=>rfl
    | some u=>rw[hh]at c27;simp at c27
   rw[e2]at e
   refine W.seq<|W.region rfl<|agb rfl rfl rfl<|agb rfl rfl rfl<|pq<|W.ret<|aY ?_
   refine mg (vs:=[_,_]) ?_
   rw[e]
   exact⟨_,[],rfl,⟨.nil,fun _ _=>.nil⟩,.nil ((Sb.trans (.nil hSS) hsb).shut.app (by repeat(first | exact Shut.nil | refine Shut.cons rfl ?_)))⟩
  ·refine W.skip<|aA<|W.seq<|W.region rfl<|qm rfl rfl rfl<|agb rfl rfl rfl<|agb rfl rfl rfl<|pq<|W.ret ?_
   obtain⟨u,e2⟩:∃u,shF ps 0 q=some u:=by
    cases hh:shF ps 0 q with
    | none=>rw[hh]at c27;simp at c27
    | some u=>exact⟨u,rfl⟩
   rw[e2]at e
   refine mg (vs:=[_,_]) ?_
   rw[e]
   exact⟨_,S,rfl,hw1 u e2,.right hsb (by repeat(first | exact Shut.nil | refine Shut.cons rfl ?_))⟩
end Go.aS

/- Treacle, as the document has it. Conditions: none; over the given program. -/
namespace Go.aS
set_option maxRecDepth 100000
set_option maxHeartbeats 4000000
theorem aii(main:Side)(h:Hp)(n lo hi:Int):Pu prog main ahB #[I n,I lo,I hi] h (.bool (decide (lo≤n)&&decide (n≤hi))):=by
 refine dV.aG ah1 rfl (by show 3≤15;decide) [(0,I n),(1,I lo),(2,I hi)] ⟨rfl,rfl,rfl,trivial⟩ ?_
 refine W.seq<|W.region rfl<|agb rfl rfl rfl<|pq<|W.seq<|W.region rfl<|qm rfl rfl rfl<|qm rfl rfl rfl ?_
 refine agW (IJ rfl rfl rfl) rfl ?_
 refine qm rfl rfl rfl ?_
 refine Ops.ask (fun ae5=>?_) (fun ae5=>?_)
 ·refine oq (aN rfl rfl) rfl (ak rfl rfl rfl) rfl rfl ?_
  refine oq (aN rfl rfl) rfl (ak rfl rfl rfl) rfl rfl ?_
  refine oq (Lr rfl rfl rfl) rfl (ak rfl rfl rfl) rfl rfl ?_
  refine agW (dG rfl rfl rfl) rfl ?_
  refine agb rfl rfl rfl<|pq<|W.ret ?_
  refine uZ ?_
  exact congrArg Value.bool (by simp[*])
 ·refine Ops.no ?_
  refine Ops.no ?_
  refine Ops.no ?_
  refine agW (iH rfl rfl rfl) rfl ?_
  refine agb rfl rfl rfl<|pq<|W.ret ?_
  refine uZ ?_
  exact congrArg Value.bool (by simp[*])
theorem aik(main:Side)(h:Hp)(p:Pn)(q:Int):Pu prog main ahz #[p.val,I q] h (.bool (p.takes q)):=by
 refine dV.aG ah0 rfl (by show 2≤11;decide) [(0,p.val),(1,I q)] ⟨rfl,rfl,trivial⟩ ?_
 refine W.seq<|W.region rfl ?_
 refine Ops.box (cs:= #[I p.lo,I p.hi,I p.sh]) (fun yR=>?_)
 refine agb rfl rfl rfl<|pq<|W.seq<|W.region rfl<|qm rfl rfl rfl ?_
 refine agY rfl ?_
 refine agX rfl ?_
 refine agY rfl ?_
 refine agX rfl ?_
 refine cp (fun h' hE hL=>aii _ h' q p.lo p.hi) ?_
 refine agb rfl rfl rfl<|pq<|W.ret ?_
 exact uZ rfl
theorem ah6(main:Side)(h:Hp)(ps:List Pn)(vp:Value)(q:Int)(hf:Sl h Pn.row vp ps)(hn:ps.length≤1000):Pu prog main ahr #[vp,I q] h (.bool (dY ps q)):=by
 obtain⟨a,cap,rfl⟩:=hf.dA
 refine dV.aG ahS rfl (by show 2≤18;decide) [(0,.slice a ps.length cap),(1,I q)] ⟨rfl,rfl,trivial⟩ ?_
 refine W.seq<|W.region rfl<|agb rfl rfl rfl<|pq<|W.seq<|W.seq<|W.region rfl<|agb rfl rfl rfl<|Ops.nil ?_
 refine aA<|W.block ?_
 refine W.loop (σ:=Nat) (fun i=>i≤ps.length∧dY ps q=dY (ps.drop i) q) (fun i=>[(5,I i),(0,.slice a ps.length cap),(1,I q)]) (fun _=>[]) (fun i=>ps.length-i) 0 ⟨Nat.zero_le _,rfl⟩ ⟨rfl,rfl,rfl,trivial⟩ .refl ?_
 rintro i ⟨hi,ht⟩
 refine W.seq<|W.seq<|W.region rfl<|qm rfl rfl rfl<|qm rfl rfl rfl ?_
 refine agW (dM rfl rfl) rfl ?_
 refine agW (fO rfl rfl rfl) rfl ?_
 refine pq ?_
 refine W.bC rfl (fun c9=>?_) (fun c9=>?_)
 ·have hil:i<ps.length:=by omega
  obtain⟨p,hp,hdr⟩:=has hil
  rw[hdr,show dY (p::ps.drop (i+1)) q=(!p.takes q&&dY (ps.drop (i+1)) q)from rfl]at ht
  obtain⟨b,off,c,E,fz,hv,hb,hx,hy,hz⟩:=hf.at hp
  cases hv
  have hx':c.extract (off+i*3) (off+i*3+3)= #[I p.lo,I p.hi,I p.sh]:=hx
  clear hx
  refine W.skip<|aA<|W.seq<|W.block<|W.seq<|W.region rfl<|qm rfl rfl rfl<|qm rfl rfl rfl ?_
  refine ag3 rfl ?_
  refine ag2 rfl ?_
  refine qm rfl rfl rfl ?_
  refine cp (fun h' hE hL=>aik _ h' p q) ?_
  refine pq ?_
  refine W.cond rfl (fun c17=>?_) (fun c17=>?_)
  ·refine W.seq<|W.region rfl<|agb rfl rfl rfl<|pq<|W.ret<|cZ<|aY<|aY<|cZ ?_
   refine aY ?_
   refine uZ ?_
   rw[ht,c17];rfl
  ·refine W.skip<|dI<|aA<|W.region rfl<|qm rfl rfl rfl ?_
   refine ag1 rfl ?_
   refine agb rfl rfl rfl<|pq ?_
   refine⟨rfl,i+1,⟨hil,?_⟩,by omega,⟨rfl,rfl,rfl,trivial⟩,.refl⟩
   rw[ht,show p.takes q=false by simpa using c17];rfl
 ·refine W.exit<|bP<|bP<|gG<|aA<|W.seq<|W.region rfl<|agb rfl rfl rfl<|pq ?_
  refine W.ret ?_
  obtain rfl:i=ps.length:=by omega
  refine uZ ?_
  rw[ht,List.drop_length];rfl
end Go.aS

/- SyrupShortest. Conditions: none; over the given program. -/
namespace Go.aS
set_option maxRecDepth 100000
set_option maxHeartbeats 4000000
end Go.aS

/- Pans that are forced. Conditions: none; over the given program. -/
namespace Go.aS
set_option maxRecDepth 100000
set_option maxHeartbeats 4000000
def noW(ps:List Pn)(q p:Nat):Bool:=(shF ps (2 ^ p) q).isNone
def FoF(ps:List Pn)(q:Int):List Nat×Int:=
 if kU ps [q]≠0 then([],kU ps [q])else
  match shF ps 0 q.toNat with
  | some _=>((List.range ps.length).filter (noW ps q.toNat),0)
  | none=>([],11)
def aif(ps:List Pn)(q k:Nat):Int→Option Value:=fun x=>if 0≤x∧x<k∧noW ps q x.toNat=true then some (.bool true)else none
theorem ajm{ps:List Pn}{q:Nat}:aif ps q 0=fun _=>none:=by
 funext x;rw[aif,if_neg (by omega)]
theorem ajb{ps:List Pn}{q k:Nat}(h:noW ps q k=true):(fun x=>if x=(k:Int)then some (.bool true)else aif ps q k x)=aif ps q (k+1):=by
 funext x
 simp only[aif]
 by_cases hx:x=(k:Int)
 ·subst hx
  rw[if_pos rfl,if_pos ⟨by omega,by omega,by rw[Int.toNat_natCast];exact h⟩]
 ·rw[if_neg hx]
  by_cases h2:0≤x∧x<(k:Int)∧noW ps q x.toNat=true
  ·rw[if_pos h2,if_pos ⟨h2.1,by omega,h2.2.2⟩]
  ·rw[if_neg h2,if_neg fun h3=>h2 ⟨h3.1,by omega,h3.2.2⟩]
theorem ai4{ps:List Pn}{q k:Nat}(h:noW ps q k=false):(fun x=>if x=(k:Int)then none else if x=(k:Int)then some (.bool true)else aif ps q k x)=aif ps q (k+1):=by
 funext x
 simp only[aif]
 by_cases hx:x=(k:Int)
 ·subst hx
  rw[if_pos rfl,if_neg fun h3=>by rw[Int.toNat_natCast,h]at h3;cases h3.2.2]
 ·rw[if_neg hx,if_neg hx]
  by_cases h2:0≤x∧x<(k:Int)∧noW ps q x.toNat=true
  ·rw[if_pos h2,if_pos ⟨h2.1,by omega,h2.2.2⟩]
  ·rw[if_neg h2,if_neg fun h3=>h2 ⟨h3.1,by omega,h3.2.2⟩]
theorem ajc{ps:List Pn}{q k p:Nat}(h:p<k):(aif ps q k (p:Int)).getD (.bool false)= .bool (noW ps q p):=by
 rw[aif]
 by_cases hp:noW ps q p=true
 ·rw[if_pos ⟨by omega,by omega,by rw[Int.toNat_natCast];exact hp⟩,hp];rfl
 ·rw[if_neg fun h3=>hp (by rw[Int.toNat_natCast]at h3;exact h3.2.2),Bool.eq_false_iff.2 hp];rfl
theorem akS:∀k:Nat,k<4→IntKind.u8.wrap (1*2 ^ (min ((k:Nat):Int).toNat IntKind.u8.bits))=((2 ^ k:Nat):Int):=by decide
theorem ajd{k:Nat}(h:k<4):2 ^ k<16:=Nat.pow_lt_pow_right (a:=2) (by omega) h

theorem ai5(main:Side)(h:Hp)(ps:List Pn)(vp:Value)(q:Int)(hf:Sl h Pn.row vp ps):dV prog main ahn #[vp,I q] h [] (fun v A=>∃w S,v= .tuple #[w,I (FoF ps q).2]∧Os dL fH w (zs (FoF ps q).1) S∧Sb S A):=by
 obtain⟨a,cap,rfl⟩:=hf.dA
 refine dV.aG ahR rfl (by show 2≤69;decide) [(0,.slice a ps.length cap),(1,I q)] ⟨rfl,rfl,trivial⟩ ?_
 refine W.seq<|W.region rfl<|agb rfl rfl rfl<|agb rfl rfl rfl<|pq<|W.seq<|W.region rfl<|qm rfl rfl rfl<|qm rfl rfl rfl ?_
 refine Ops.NK (cs:= #[I q]) (fun akT=>?_) rfl
 refine cp (fun h' hE hL=>Am _ h' ps _ [q] _ (hf.ext hE) (Sl.mk (hL akT _ (.head _)) rfl (Part.all [I q])) (by simp)) ?_
 refine qm rfl rfl rfl<|oq (bD rfl rfl rfl) rfl wn rfl rfl<|oq (bD rfl rfl rfl) rfl wn rfl rfl ?_
 have hcs:∃cs:Array Value,(if kU ps [q]=0 then xJ (.slice a ps.length cap) 0 else LZ)= .agg cs∧cs.size=2∧ones cs.toList=true:=by
  split <;>exact⟨_,rfl,rfl,rfl⟩
 obtain⟨cs,hcs,hcs2,hcs1⟩:=hcs
 rw[hcs]
 refine Ops.new (fun yC=>?_)
 refine Ops.jP (n:=2) (vs:=cs) ?_ (hy:=by rfl) (hn:=hcs2) (h1:=hcs1)
 refine agb rfl rfl rfl<|pq<|W.seq<|W.seq<|W.region rfl<|qm rfl rfl rfl ?_
 refine agW (nG rfl rfl rfl) rfl ?_
 refine pq ?_
 refine W.bC rfl (fun c24=>?_) (fun c24=>?_)
 ·have e:FoF ps q=([],kU ps [q]):=by rw[FoF,if_pos (by simpa using c24)]
  refine W.seq<|W.region rfl<|qm rfl rfl rfl<|agb rfl rfl rfl<|agb rfl rfl rfl<|pq<|W.ret<|aY ?_
  refine mg (vs:=[_,_]) ?_
  rw[e]
  exact⟨_,[],rfl,.nil .nil,.nil (by repeat(first | exact Shut.nil | refine Shut.cons rfl ?_))⟩
 ·have h0:kU ps [q]=0:=by simpa using c24
  obtain⟨hok,hq0,hq12⟩:=Sj h0
  have h4:=hok.len
  rw[if_pos h0]at hcs
  cases hcs
  obtain⟨q,rfl⟩:∃n:Nat,q=n:=⟨q.toNat,by omega⟩
  have e:FoF ps q=match shF ps 0 q with | some _=>((List.range ps.length).filter (noW ps q),0) | none=>([],11):=by rw[FoF,if_neg (by simpa using h0),Int.toNat_natCast]
  refine W.skip<|aA<|W.seq<|W.seq<|W.region rfl ?_
  refine ag2 rfl ?_
  refine qm rfl rfl rfl ?_
  refine c0 (fun h' hE hL=>ah_ _ h' ps _ 0 q (hf.ext hE) hok (by decide) (by omega)) (fun v A' hv=>?_)
  obtain⟨w,S,rfl,-,-,hSS,hsb⟩:=hv
  refine Ops.sb (F':=[(yC,.cells #[.slice a ps.length cap,U8 0] bG (0,0))]) (.left (.right (B:=[_]) .refl (.cons rfl .nil)) (Sb.trans (.nil hSS) hsb).shut) ?_
  refine qm rfl rfl rfl<|oq (bD rfl rfl rfl) rfl wn rfl rfl<|oq (bD rfl rfl rfl) rfl wn rfl rfl<|agb rfl rfl rfl<|agb rfl rfl rfl<|pq<|W.seq<|W.region rfl<|qm rfl rfl rfl ?_
  refine agW (xU rfl rfl) rfl ?_
  refine pq ?_
  refine W.cond rfl (fun c33=>?_) (fun c33=>?_)
  ·have e2:shF ps 0 q=none:=by
    cases hh:shF ps 0 q with
    | none=>rfl
    | some u=>rw[hh]at c33;simp at c33
   rw[e2]at e
   refine W.seq<|W.region rfl<|agb rfl rfl rfl<|agb rfl rfl rfl<|pq<|W.ret<|aY ?_
   refine mg (vs:=[_,_]) ?_
   rw[e]
   exact⟨_,[],rfl,.nil .nil,.nil (by repeat(first | exact Shut.nil | refine Shut.cons rfl ?_))⟩
  ·obtain⟨u,e2⟩:∃u,shF ps 0 q=some u:=by
    cases hh:shF ps 0 q with
    | none=>rw[hh]at c33;simp at c33
    | some u=>exact⟨u,rfl⟩
   rw[e2]at e
   refine W.skip<|aA<|W.seq<|W.region rfl ?_
   refine oe rfl wn rfl rfl (Md rfl (fun ahd hn hm=>?_))
   refine agb rfl rfl rfl<|pq<|W.seq<|W.seq<|W.region rfl<|qm rfl rfl rfl ?_
   refine agW (dM rfl rfl) rfl ?_
   refine qm rfl rfl rfl<|pq<|W.block ?_
   refine W.loop (σ:=Nat×Array MapEntry×Nat×Nat) (fun s=>s.1≤ps.length∧ER s.2.1 (aif ps q s.1)∧s.2.2.2<16) (fun s=>[(37,I s.1),(36,I ps.length),(10,.map (some ahd)),(6,.pointer (some ⟨yC,0,none⟩)),(1,I q),(0,.slice a ps.length cap)])
    (fun s=>[(ahd,.map s.2.1 s.2.2.1),(yC,.cells #[.slice a ps.length cap,U8 s.2.2.2] bG (0,0))]) (fun s=>ps.length-s.1) (0, #[],0,0) ⟨Nat.zero_le _,by show ER #[] (aif ps q 0);rw[ajm];exact ER.nil,by decide⟩ ⟨rfl,rfl,rfl,rfl,rfl,rfl,trivial⟩ .refl ?_
   rintro⟨k,es,ck,c⟩ ⟨hk,hM,hc⟩
   dsimp only at*
   refine W.seq<|W.region rfl ?_
   refine agW (fO rfl rfl rfl) rfl ?_
   refine pq<|W.seq ?_
   refine W.bC rfl (fun c38=>?_) (fun c38=>?_)
   ·have hkl:k<ps.length:=by omega
    refine W.skip<|aA<|W.seq<|W.block<|W.seq<|W.region rfl<|qm rfl rfl rfl<|agb rfl rfl rfl<|pq ?_
    refine W.seq<|W.region rfl<|qm rfl rfl rfl<|qm rfl rfl rfl ?_
    refine oe rfl wn rfl rfl (SE rfl rfl rfl rfl .head hM (fun es2 ck2 hM2=>?_))
    refine pq<|W.seq<|W.region rfl<|qm rfl rfl rfl ?_
    refine KU (Wx rfl rfl rfl (by omega)) (congrArg (Value.int .u8) (akS k (by omega))) rfl wn rfl rfl ?_
    refine agY rfl ?_
    refine Ops.yG ?_
    refine pq<|W.seq<|W.region rfl ?_
    refine ag2 rfl ?_
    refine qm rfl rfl rfl ?_
    refine c0 (fun h' hE hL=>ah_ _ h' ps _ (2 ^ k) q (hf.ext hE) hok (ajd (by omega)) (by omega)) (fun v A' hv=>?_)
    obtain⟨w,S,rfl,-,-,hSS,hsb⟩:=hv
    refine Ops.sb (F':=[(ahd,.map es2 ck2),(yC,.cells #[.slice a ps.length cap,U8 (2 ^ k)] bG (0,0))]) (.left .refl (Sb.trans (.nil hSS) hsb).shut) ?_
    refine qm rfl rfl rfl<|oq (bD rfl rfl rfl) rfl wn rfl rfl<|oq (bD rfl rfl rfl) rfl wn rfl rfl<|agb rfl rfl rfl<|agb rfl rfl rfl<|pq<|W.seq<|W.region rfl<|qm rfl rfl rfl ?_
    refine pq ?_
    refine W.cond rfl (fun c51=>?_) (fun c51=>?_)
    ·refine W.region rfl<|qm rfl rfl rfl<|qm rfl rfl rfl ?_
     refine oe rfl wn rfl rfl (ajk rfl rfl rfl .head hM2 (fun es3 ck3 hM3=>?_))
     refine Ops.nil<|dI<|aA<|W.region rfl ?_
     refine ag1 rfl ?_
     refine qm rfl rfl rfl<|pq ?_
     have hw:noW ps q k=false:=by rw[noW,←Option.not_isSome,c51];rfl
     rw[ai4 hw]at hM3
     exact⟨rfl,(k+1,es3,ck3,2 ^ k),⟨hkl,hM3,ajd (by omega)⟩,by dsimp only;omega,⟨rfl,rfl,rfl,rfl,rfl,rfl,trivial⟩,.refl⟩
    ·refine W.skip<|dI<|aA<|W.region rfl ?_
     refine ag1 rfl ?_
     refine qm rfl rfl rfl<|pq ?_
     have hw:noW ps q k=true:=by rw[noW,←Option.not_isSome];simpa using c51
     rw[ajb hw]at hM2
     exact⟨rfl,(k+1,es2,ck2,2 ^ k),⟨hkl,hM2,ajd (by omega)⟩,by dsimp only;omega,⟨rfl,rfl,rfl,rfl,rfl,rfl,trivial⟩,.refl⟩
   ·obtain rfl:k=ps.length:=by omega
    refine W.exit<|bP<|bP<|gG<|aA<|W.seq<|W.region rfl<|agb rfl rfl rfl<|pq ?_
    refine W.seq<|W.seq<|W.region rfl<|qm rfl rfl rfl ?_
    refine agW (dM rfl rfl) rfl ?_
    refine qm rfl rfl rfl<|pq<|W.block ?_
    refine W.Js (fun(k:Nat) (v:Value) (S:ah)=>k≤ps.length∧Os dL fH v (zs ((List.range k).filter (noW ps q))) S) (fun k v S=>[(57,I k),(56,I ps.length),(14,v),(10,.map (some ahd)),(0,.slice a ps.length cap)]) (fun k v S=>S++[(ahd,.map es ck)]) (fun k _ _=>ps.length-k) 0 (.slice none 0 0) [] ⟨Nat.zero_le _,.nil .nil⟩ ⟨rfl,rfl,rfl,rfl,rfl,trivial⟩ (.cons (.skip rfl .refl)) ?_
    rintro k v S ⟨hk2,hS⟩
    refine W.seq<|W.region rfl ?_
    refine agW (fO rfl rfl rfl) rfl ?_
    refine pq<|W.seq ?_
    refine W.bC rfl (fun c58=>?_) (fun c58=>?_)
    ·have hkl:k<ps.length:=by omega
     have hlen:(zs ((List.range k).filter (noW ps q))).length≤4:=by rw[kT];exact Nat.le_trans (List.length_filter_le ..) (by simp;omega)
     refine W.skip<|aA<|W.seq<|W.block<|W.seq<|W.region rfl<|qm rfl rfl rfl<|agb rfl rfl rfl<|pq ?_
     refine W.seq<|W.region rfl<|qm rfl rfl rfl<|qm rfl rfl rfl ?_
     refine oe rfl wn rfl rfl (aaj rfl rfl rfl (.app .head) hM ?_)
     rw[ajc hkl]
     refine pq ?_
     refine W.cond rfl (fun c62=>?_) (fun c62=>?_)
     ·refine W.region rfl<|qm rfl rfl rfl<|qm rfl rfl rfl ?_
      refine Ops.NK (cs:= #[I k]) (fun akV=>?_) rfl
      refine oe rfl wn rfl rfl (iW (row:=fH) (l':=[(k:Int)]) rfl rfl rfl hS (.tail .head) (fun h2 _ hl=>Sl.mk (hl akV _ (.head _)) rfl (Part.all [I k])) (by simp;omega) (by decide) rfl (fun v' S' hS'=>?_))
      refine agb rfl rfl rfl<|Ops.nil<|dI<|aA<|W.region rfl ?_
      refine ag1 rfl ?_
      refine qm rfl rfl rfl<|pq ?_
      exact⟨rfl,k+1,v',S',⟨by omega,by rw[List.range_succ,List.filter_append,X3];simpa[zs,c62]using hS'⟩,by omega,⟨rfl,rfl,rfl,rfl,rfl,trivial⟩,.skip rfl .refl⟩
     ·refine W.skip<|dI<|aA<|W.region rfl ?_
      refine ag1 rfl ?_
      refine qm rfl rfl rfl<|pq ?_
      exact⟨rfl,k+1,v,S,⟨by omega,by rw[List.range_succ,List.filter_append,X3];simpa[zs,c62]using hS⟩,by omega,⟨rfl,rfl,rfl,rfl,rfl,trivial⟩,.refl⟩
    ·refine W.exit<|bP<|bP<|gG<|aA<|W.seq<|W.region rfl<|qm rfl rfl rfl<|agb rfl rfl rfl<|agb rfl rfl rfl ?_
     refine pq<|W.ret ?_
     obtain rfl:k=ps.length:=by omega
     refine mg (vs:=[_,_]) ?_
     rw[e]
     exact⟨_,S,rfl,hS,.right .refl (.cons rfl .nil)⟩
end Go.aS

/- Pans that are shut; where one comes without them. Conditions: none; no program in sight. -/
namespace Go.aS
set_option linter.unusedVariables false
def ai1(f:Nat→Nat→Bool)(n:Nat):Bool:=(List.range n).any fun i=>(List.range 13).any fun k=>f i k
def aiV(f:Nat→Nat→Bool)(n k:Nat):Bool:=ai1 f n|| (List.range k).any fun k=>f n k
theorem ai8{f:Nat→Nat→Bool}{n:Nat}:aiV f n 0=ai1 f n:=by simp[aiV]
theorem aiw{f:Nat→Nat→Bool}{n k:Nat}:aiV f n (k+1)=(aiV f n k|| f n k):=by simp[aiV,List.range_succ,Bool.or_assoc]
theorem ai9{f:Nat→Nat→Bool}{n:Nat}:ai1 f (n+1)=aiV f n 13:=by simp[ai1,aiV,List.range_succ]

def stp(g:yV)(q o:Nat):Prop:=∃p,(p,o)∈g q
theorem aix{g g':yV}(h:∀q o,stp g q o↔stp g' q o):∀{n q e:Nat},(∃v:List Nat,v.length=n∧qJ g q v e)→∃v:List Nat,v.length=n∧qJ g' q v e
 | 0,q,e,⟨v,h1,h2⟩=>by
  obtain rfl:=List.length_eq_zero_iff.1 h1
  exact⟨[],rfl,h2⟩
 | n+1,q,e,⟨v,h1,h2⟩=>by
  rcases v with _ | ⟨p,r⟩
  ·cases h1
  ·obtain⟨o,h3,h4⟩:=h2
   obtain⟨p',h5⟩:=(h q o).1 ⟨p,h3⟩
   obtain⟨r',h6,h7⟩:=aix h (n:=n) ⟨r,by simpa using h1,h4⟩
   exact⟨p'::r',by simp[h6],o,h5,h7⟩
theorem aiR{g g':yV}(h:∀q o,stp g q o↔stp g' q o){n q e:Nat}:(∃v:List Nat,v.length=n∧qJ g q v e)↔∃v:List Nat,v.length=n∧qJ g' q v e:=
 ⟨aix h,aix fun q o=>(h q o).symm⟩
def ail(ps:List Pn)(l:List Int):Nat→List Pn
 | 0=>[]
 | i+1=>ail ps l i++(match ps[i]? with | some p=>if(i:Int)∈l then[]else[p] | none=>[])
def ah7(ps:List Pn)(l:List Int):List Pn:=ail ps l ps.length
theorem aiy{ps:List Pn}{l:List Int}:∀{i:Nat},(ail ps l i).length≤i
 | 0=>by simp[ail]
 | i+1=>by
  rw[ail,List.length_append]
  have:=aiy (ps:=ps) (l:=l) (i:=i)
  split
  ·split <;>simp <;>omega
  ·simp;omega
theorem aiU{ps:List Pn}{l:List Int}{p:Pn}:∀{n:Nat},p∈ail ps l n↔∃i:Nat,i<n∧ps[i]? =some p∧(i:Int)∉l
 | 0=>by simp[ail]
 | n+1=>by
  rw[ail,List.mem_append,aiU]
  constructor
  ·rintro(⟨i,h1,h2⟩ | h)
   ·exact⟨i,by omega,h2⟩
   ·split at h
    ·rename_i x hx
     split at h
     ·cases h
     ·rename_i hn
      rw[List.mem_singleton.1 h]
      exact⟨n,by omega,hx,hn⟩
    ·cases h
  ·rintro⟨i,h1,h2,h3⟩
   rcases Nat.lt_or_ge i n with h | h
   ·exact .inl ⟨i,h,h2,h3⟩
   ·obtain rfl:i=n:=by omega
    right;rw[h2];simp[h3]
theorem aiF{ps:List Pn}{l:List Int}{p:Pn}:p∈ah7 ps l↔∃i:Nat,ps[i]? =some p∧(i:Int)∉l:=by
 rw[ah7,aiU]
 constructor
 ·rintro⟨i,-,h⟩;exact⟨i,h⟩
 ·rintro⟨i,h1,h2⟩
  refine⟨i,?_,h1,h2⟩
  rcases Nat.lt_or_ge i ps.length with h | h
  ·exact h
  ·rw[List.getElem?_eq_none h]at h1;cases h1
theorem aiM{ps:List Pn}{l:List Int}:(ah7 ps l).length≤ps.length:=aiy
theorem ajn{ps:List Pn}{l:List Int}(h:nV ps=0):nV (ah7 ps l)=0:=by
 have h4:=(iP.yB h).len
 have hm:∀p∈ps,gW p=0:=by
  rw[nV,if_neg (by omega)]at h
  exact JO h
 rw[nV,if_neg (by have:=aiM (ps:=ps) (l:=l);omega)]
 have:∀qs:List Pn,(∀p∈qs,gW p=0)→lX qs=0:=by
  intro qs
  induction qs with
  | nil=>intro _;rfl
  | cons a qs ih=>
   intro ha
   rw[lX,if_pos (ha a (by simp))]
   exact ih fun p hp=>ha p (by simp[hp])
 refine this _ fun p hp=>?_
 obtain⟨i,h1,-⟩:=aiF.1 hp
 exact hm p (List.mem_of_getElem? h1)
theorem ai2{ps:List Pn}(h4:ps.length≤4){c q o:Nat}:stp (dO ps c) q o↔∃i x,ps[i]? =some x∧c.testBit i=false∧x.takes q=true∧o=(x.out q).toNat:=by
 unfold stp
 simp only[Um,Ak]
 constructor
 ·rintro⟨i,⟨h1,h2,h3⟩,rfl⟩
  unfold P9 at h2
  split at h2
  ·rename_i x hx
   exact⟨i,x,hx,h3,h2,by rw[gy,hx]⟩
  ·cases h2
 ·rintro⟨i,x,hx,h3,h2,rfl⟩
  refine⟨i,⟨?_,?_,h3⟩,by rw[gy,hx]⟩
  ·obtain⟨h,-⟩:=List.getElem?_eq_some_iff.1 hx;omega
  ·unfold P9;rw[hx];exact h2
theorem aiW{ps:List Pn}(h4:ps.length≤4){c:Nat}{l:List Int}(hc:∀i,i<4→(c.testBit i=true↔(i:Int)∈l))(q o:Nat):stp (dO (ah7 ps l) 0) q o↔stp (dO ps c) q o:=by
 rw[ai2 (by have:=aiM (ps:=ps) (l:=l);omega),ai2 h4]
 constructor
 ·rintro⟨j,x,hx,-,h1,h2⟩
  obtain⟨i,h3,h5⟩:=aiF.1 (List.mem_of_getElem? hx)
  have hi:i<4:=by obtain⟨h,-⟩:=List.getElem?_eq_some_iff.1 h3;omega
  exact⟨i,x,h3,by rw[←Bool.not_eq_true,hc i hi];exact h5,h1,h2⟩
 ·rintro⟨i,x,hx,h3,h1,h2⟩
  have hi:i<4:=by obtain⟨h,-⟩:=List.getElem?_eq_some_iff.1 hx;omega
  obtain⟨j,hj⟩:=List.getElem?_of_mem (aiF.2 ⟨i,hx,by rw[←hc i hi,h3];simp⟩)
  exact⟨j,x,hj,by simp,h1,h2⟩
theorem aje{ps:List Pn}{c q:Nat}{l:List Int}(h:nV ps=0)(hq:q<13)(hc:∀i,i<4→(c.testBit i=true↔(i:Int)∈l)):ai1 (fun n k=>OD (ah7 ps l) q n k&&dY ps k) 14=((Ah (dO ps c) q).find? fun w=>dY ps w.2).isSome:=by
 have h4:=(iP.yB h).len
 have h4':(ah7 ps l).length≤4:=Nat.le_trans aiM h4
 rw[Bool.eq_iff_iff,List.find?_isSome]
 simp only[ai1,List.any_eq_true,List.mem_range,Bool.and_eq_true,EZ h4' hq]
 constructor
 ·rintro⟨n,hn,k,hk,hv,ht⟩
  obtain⟨v,h1,h2⟩:=(aiR (aiW h4 hc)).1 hv
  obtain⟨w,hw,hwe⟩:=(aiq afX (q:=q) (g:=dO ps c) F9 hq (e:=k)).2 ⟨n,hn,JI.2 ⟨v,k,h1,h2,by simp⟩⟩
  exact⟨w,hw,by rw[hwe];exact ht⟩
 ·rintro⟨w,hw,ht⟩
  obtain⟨n,hn,hl⟩:=(aiq afX (q:=q) (g:=dO ps c) F9 hq (e:=w.2)).1 ⟨w,hw,rfl⟩
  obtain⟨v,e,h1,h2,h3⟩:=JI.1 hl
  obtain rfl:e=w.2:=by simpa using h3
  exact⟨n,hn,w.2,acs F9 hq h2,(aiR (aiW h4 hc)).2 ⟨v,h1,h2⟩,ht⟩
end Go.aS

/- Pans shut, as the document has it. Conditions: none; over the given program. -/
namespace Go.aS
set_option maxRecDepth 100000
set_option maxHeartbeats 4000000
theorem ajo(main:Side)(h:Hp)(ps:List Pn)(l:List Int)(vp vl:Value)(hf:Sl h Pn.row vp ps)(hl:Sl h fH vl l)(Du:ps.length≤1000)(hl4:l.length≤1000):dV prog main ahM #[vp,vl] h [] (fun v A=>Os Ag Pn.row v (ah7 ps l) A):=by
 obtain⟨a,cap,rfl⟩:=hf.dA
 obtain⟨a2,cap2,rfl⟩:=hl.dA
 refine dV.aG ah8 rfl (by show 2≤40;decide) [(0,.slice a ps.length cap),(1,.slice a2 l.length cap2)] ⟨rfl,rfl,trivial⟩ ?_
 refine W.seq<|W.region rfl<|agb rfl rfl rfl<|pq<|W.seq<|W.region rfl<|agb rfl rfl rfl<|pq ?_
 refine W.seq<|W.seq<|W.region rfl<|agb rfl rfl rfl<|pq<|W.block ?_
 refine W.Js (fun(i:Nat) (v:Value) (S:ah)=>i≤ps.length∧Os Ag Pn.row v (ail ps l i) S) (fun i v S=>[(6,I i),(5,v),(0,.slice a ps.length cap),(1,.slice a2 l.length cap2)]) (fun i v S=>S) (fun i _ _=>ps.length-i) 0 (.slice none 0 0) [] ⟨Nat.zero_le _,.nil .nil⟩ ⟨rfl,rfl,rfl,rfl,trivial⟩ .refl ?_
 rintro i v S ⟨hi,hS⟩
 refine W.seq<|W.seq<|W.region rfl<|qm rfl rfl rfl<|qm rfl rfl rfl ?_
 refine agW (dM rfl rfl) rfl ?_
 refine agW (fO rfl rfl rfl) rfl ?_
 refine pq ?_
 refine W.bC rfl (fun c12=>?_) (fun c12=>?_)
 ·have hil:i<ps.length:=by omega
  obtain⟨p,hp,-⟩:=has hil
  have hsl:=aiy (ps:=ps) (l:=l) (i:=i)
  refine W.skip<|aA<|W.seq<|W.block<|W.seq<|W.region rfl<|agb rfl rfl rfl<|pq<|W.seq ?_
  refine W.seq<|W.region rfl<|agb rfl rfl rfl<|pq<|W.block ?_
  refine W.loop (σ:=Nat) (fun k=>k≤l.length) (fun k=>[(8,I k),(7,.bool (decide ((i:Int)∈l.take k))),(6,I i),(5,v),(0,.slice a ps.length cap),(1,.slice a2 l.length cap2)]) (fun _=>S) (fun k=>l.length-k) 0 (Nat.zero_le _) ⟨rfl,lk rfl (congrArg Value.bool (by simp)),rfl,rfl,rfl,rfl,trivial⟩ .refl ?_
  rintro k hk
  refine W.seq<|W.seq<|W.region rfl<|qm rfl rfl rfl<|qm rfl rfl rfl ?_
  refine agW (dM rfl rfl) rfl ?_
  refine agW (fO rfl rfl rfl) rfl ?_
  refine pq ?_
  refine W.bC rfl (fun c18=>?_) (fun c18=>?_)
  ·have hkl:k<l.length:=by omega
   obtain⟨x,hx,-⟩:=has hkl
   obtain⟨b2,off2,c2,E2,fz2,hv2,hb2,-,-,hz2⟩:=hl.at hx
   cases hv2
   have hc2:c2[off2+k*1]? =some (I x):=hz2 0 (by decide)
   refine W.skip<|aA<|W.seq<|W.block<|W.region rfl<|qm rfl rfl rfl<|qm rfl rfl rfl ?_
   refine Ops.RV (fun ajf=>?_) (fun ajf=>?_)
   ·refine Ops.no ?_
    refine Ops.no ?_
    refine Ops.no ?_
    refine Ops.no ?_
    refine Ops.no ?_
    refine Ops.no ?_
    refine agW (dG rfl rfl rfl) rfl ?_
    refine agb rfl rfl rfl<|Ops.nil<|dI<|aA<|W.region rfl<|qm rfl rfl rfl ?_
    refine ag1 rfl ?_
    refine agb rfl rfl rfl<|pq ?_
    refine⟨rfl,k+1,hkl,by omega,⟨rfl,lk rfl (congrArg Value.bool ?_),rfl,rfl,rfl,rfl,trivial⟩,.refl⟩
    have e:decide ((i:Int)∈l.take (k+1))=(decide ((i:Int)∈l.take k)|| decide (x=(i:Int))):=by
     rw[←Bool.decide_or]
     refine decide_eq_decide.2 ?_
     rw[List.take_add_one,hx,List.mem_append]
     simp[eq_comm]
    rw[e]
    first | (rw[ajf];rfl) | (rw[Bool.eq_false_iff.2 ajf];rfl) | simp_all
   ·refine oq (aN rfl rfl) rfl (ak rfl rfl rfl) rfl rfl ?_
    refine oq (aN rfl rfl) rfl (ak rfl rfl rfl) rfl rfl ?_
    first | refine oq (G_ rfl rfl rfl) rfl (ak rfl rfl rfl) rfl rfl ?_ | refine oq (o_ rfl rfl rfl) rfl (ak rfl rfl rfl) rfl rfl ?_
    refine oq (iQ rfl rfl) rfl (ak rfl rfl rfl) rfl rfl ?_
    refine oq (aN rfl rfl) rfl (ak rfl rfl rfl) rfl rfl ?_
    refine oq (nD rfl rfl rfl) rfl (ak rfl rfl rfl) rfl rfl ?_
    refine agW (iH rfl rfl rfl) rfl ?_
    refine agb rfl rfl rfl<|Ops.nil<|dI<|aA<|W.region rfl<|qm rfl rfl rfl ?_
    refine ag1 rfl ?_
    refine agb rfl rfl rfl<|pq ?_
    refine⟨rfl,k+1,hkl,by omega,⟨rfl,lk rfl (congrArg Value.bool ?_),rfl,rfl,rfl,rfl,trivial⟩,.refl⟩
    have e:decide ((i:Int)∈l.take (k+1))=(decide ((i:Int)∈l.take k)|| decide (x=(i:Int))):=by
     rw[←Bool.decide_or]
     refine decide_eq_decide.2 ?_
     rw[List.take_add_one,hx,List.mem_append]
     simp[eq_comm]
    rw[e]
    first | (rw[ajf];rfl) | (rw[Bool.eq_false_iff.2 ajf];rfl) | simp_all
  ·obtain rfl:k=l.length:=by omega
   rw[List.take_length]
   have hk1:ail ps l (i+1)=ail ps l i++(if(i:Int)∈l then[]else[p]):=by rw[ail,hp]
   refine W.exit<|bP<|bP<|gG<|aA<|W.seq<|W.region rfl<|qm rfl rfl rfl ?_
   refine agW (xU rfl rfl) rfl ?_
   refine pq ?_
   refine W.cond rfl (fun c31=>?_) (fun c31=>?_)
   ·obtain⟨b,off,c,E,fz,hv,hb,hx1,hy1,hz1⟩:=hf.at hp
    cases hv
    have hx':c.extract (off+i*3) (off+i*3+3)= #[I p.lo,I p.hi,I p.sh]:=hx1
    clear hx1 hz1
    have hn:(i:Int)∉l:=by simpa using c31
    rw[if_neg hn]at hk1
    refine W.region rfl<|qm rfl rfl rfl<|qm rfl rfl rfl<|qm rfl rfl rfl ?_
    refine ag3 rfl ?_
    refine ag2 rfl ?_
    refine Ops.NK (cs:= #[I p.lo,I p.hi,I p.sh]) (fun akW=>?_) rfl (hf:=by kernel_rfl)
    refine oe rfl wn rfl rfl (iW (row:=Pn.row) (l':=[p]) rfl rfl rfl hS (.tail .all) (fun h2 _ hl=>Sl.mk (hl akW _ (.head _)) rfl (Part.all (Pn.row p))) (by simp;omega) (by decide) rfl (fun v' S' hS'=>?_))
    refine agb rfl rfl rfl<|Ops.nil<|dI<|aA<|W.region rfl<|qm rfl rfl rfl ?_
    refine ag1 rfl ?_
    refine agb rfl rfl rfl<|pq ?_
    exact⟨rfl,i+1,v',S',⟨hil,by rw[hk1];exact hS'⟩,by omega,⟨rfl,rfl,rfl,rfl,trivial⟩,.skip rfl .refl⟩
   ·refine W.skip<|dI<|aA<|W.region rfl<|qm rfl rfl rfl ?_
    refine ag1 rfl ?_
    refine agb rfl rfl rfl<|pq ?_
    have hn:(i:Int)∈l:=by simpa using c31
    rw[if_pos hn,List.append_nil]at hk1
    exact⟨rfl,i+1,v,S,⟨hil,by rw[hk1];exact hS⟩,by omega,⟨rfl,rfl,rfl,rfl,trivial⟩,.refl⟩
 ·refine W.exit<|bP<|bP<|gG<|aA<|W.seq<|W.region rfl<|qm rfl rfl rfl<|agb rfl rfl rfl<|Ops.nil ?_
  refine aA<|W.ret ?_
  obtain rfl:i=ps.length:=by omega
  exact mg (vs:=[v]) hS
end Go.aS

/- SyrupForced. Conditions: none; over the given program. -/
namespace Go.aS
set_option maxRecDepth 100000
set_option maxHeartbeats 4000000
theorem ajg{ps:List Pn}{q:Nat}(h:nV ps=0)(hq:q<13):∃G e,FoF ps q=(G,e)∧(ahU ps q).2=e∧G.length≤ps.length∧((e=0∧G=(List.range ps.length).filter (noW ps q))∨(e=11∧G.length=0)):=by
 have hb:kU ps [(q:Int)]=0:=UH h (by omega) (by omega)
 have hR:FoF ps q=match shF ps 0 q with | some _=>((List.range ps.length).filter (noW ps q),0) | none=>([],11):=by
  rw[FoF,if_neg (by rw[hb];simp),Int.toNat_natCast] <;>rfl
 have hR2:ahU ps q=match shF ps 0 q with | some w=>(w.1,0) | none=>([],11):=by
  rw[ahU,if_neg (by rw[hb];simp),Int.toNat_natCast] <;>rfl
 cases hf:shF ps 0 q with
 | none=>exact⟨[],11,by rw[hR,hf],by rw[hR2,hf],by simp,.inr ⟨rfl,rfl⟩⟩
 | some w=>exact⟨_,0,by rw[hR,hf],by rw[hR2,hf],Nat.le_trans (List.length_filter_le ..) (by simp),.inl ⟨rfl,rfl⟩⟩
theorem aiP(main:Side)(hS:∀S,main.ok S→∃Fin,S=Mo prog Fin)(hmb:main.b=true)(h:Hp)(nums:List Int)(lv:Value)(Eg:TypeId)(zg:Nat×Nat)(hl:Sl h fH lv nums)(hg:h 0=some (.cells #[Ur qM] Eg zg))(z0:h.z 0):QE prog main ahf #[lv] h (.bool true):=by
 refine QE.aG ahL rfl (by show 1≤95;decide) [(0,lv)] ⟨rfl,trivial⟩ ?_
 refine W.seq<|W.region rfl<|agb rfl rfl rfl<|pq<|W.seq<|W.region rfl<|qm rfl rfl rfl ?_
 refine c0 (fun h' hE hL=>VQ _ h' nums lv (hl.ext hE)) (fun v A' hv=>?_)
 obtain⟨b,s0,rfl,rfl⟩:=hv
 refine agb rfl rfl rfl<|pq<|W.seq<|W.region rfl<|qm rfl rfl rfl ?_
 refine cg (A:=[(b,wF lv 0 s0)]) .head (fun h' hE hL=>VT _ h' nums lv b 0 s0 4 (hl.ext hE) (by omega) (by omega)) (fun v A' hv=>?_)
 obtain⟨ps,Sp,k',s',hO,⟨hpl,hck⟩,hk',hsb⟩:=hv
 refine Ops.sb (F':=[(b,wF lv k' s')]++(Sp++[])) (by simpa using hsb) ?_
 have hps:=aaD hpl hck
 have hok:=iP.yB hps
 have h4:=hok.len
 refine qm rfl rfl rfl ?_
 refine cg (A:=[(b,wF lv k' s')]) .head (fun h' hE hL=>UC _ h' nums lv b k' s' 12 (hl.ext hE) (by omega) (by omega)) (fun v A' hv=>?_)
 obtain⟨q,s2,rfl,hq,Oh⟩:=hv
 refine Ops.sb (F':=Sp++[]) (.left .refl (Sb.trans (.nil (.cons rfl .nil)) Oh).shut) ?_
 obtain⟨q,rfl⟩:∃n:Nat,q=n:=⟨q.toNat,by omega⟩
 have Dn:q<13:=by omega
 refine agb rfl rfl rfl<|agb rfl rfl rfl<|pq ?_
 refine JU hO (fun hz hEz hsl hzs=>?_)
 obtain⟨a,cap,rfl⟩:=hsl.dA
 have hgz:=hEz.1 _ _ hg
 refine W.seq<|W.region rfl<|qm rfl rfl rfl<|qm rfl rfl rfl ?_
 refine c0 (fun h' hE hL=>ai5 _ h' ps _ q (hsl.ext hE)) (fun v A' hv=>?_)
 obtain⟨w,S,hv1,hw,afy⟩:=hv
 obtain⟨G,e,hRe,hSe,hGl,hcs⟩:=ajg hps Dn
 rw[hRe]at hv1 hw
 dsimp only at hv1 hw
 subst hv1
 refine Ops.sb (F':=S++[]) (by simpa using afy) ?_
 refine qm rfl rfl rfl<|oq (bD rfl rfl rfl) rfl wn rfl rfl<|oq (bD rfl rfl rfl) rfl wn rfl rfl<|agb rfl rfl rfl<|agb rfl rfl rfl<|pq ?_
 refine JU hw (fun hz2 agM hsl2 _=>?_)
 obtain⟨aw,cw,rfl⟩:=hsl2.dA
 rw[kT]at hsl2⊢
 replace hgz:=agM.1 _ _ hgz
 replace hsl:=hsl.ext agM
 refine W.seq<|W.region rfl<|qm rfl rfl rfl<|qm rfl rfl rfl ?_
 refine c0 (fun h' hE hL=>aib _ h' ps _ q (hsl.ext hE)) (fun v A' hv=>?_)
 obtain⟨w,S,rfl,hw2,af4⟩:=hv
 rw[hSe]
 refine Ops.sb (F':=[]) (.nil ((Sb.trans (.nil hw2.1) af4).shut.app .nil)) ?_
 refine qm rfl rfl rfl<|oq (bD rfl rfl rfl) rfl wn rfl rfl<|oq (bD rfl rfl rfl) rfl wn rfl rfl<|agb rfl rfl rfl<|agb rfl rfl rfl<|pq<|W.seq ?_
 refine W.cut [(7,I e),(6,.slice aw G.length cw),(5,I q),(4,.slice a ps.length cap)] [] ?_ ?_
 ·refine W.seq<|W.region rfl<|qm rfl rfl rfl<|qm rfl rfl rfl ?_
  refine KU (nG rfl rfl rfl) (congrArg Value.bool (show decide (e≠e)=false by simp)) rfl wn rfl rfl ?_
  refine qm rfl rfl rfl ?_
  refine oq (aN rfl rfl) rfl (ak rfl rfl rfl) rfl rfl ?_
  refine oq (nG rfl rfl rfl) rfl (ak rfl rfl rfl) rfl rfl ?_
  refine oq (aN rfl rfl) rfl (ak rfl rfl rfl) rfl rfl ?_
  refine Ops.ask (fun afE=>?_) (fun afE=>?_)
  ·refine oq (aN rfl rfl) rfl (ak rfl rfl rfl) rfl rfl ?_
   refine oq (nG rfl rfl rfl) rfl (ak rfl rfl rfl) rfl rfl ?_
   refine oq (dG rfl rfl rfl) rfl (ak rfl rfl rfl) rfl rfl ?_
   refine agW (iH rfl rfl rfl) rfl ?_
   refine pq ?_
   refine W.bC rfl (fun c44=>?_) (fun c44=>?_)
   ·refine W.seq<|W.region rfl<|agb rfl rfl rfl<|pq<|W.ret ?_
    exfalso;omega
   ·refine W.skip ?_
    exact⟨rfl,rfl,⟨rfl,rfl,rfl,rfl,trivial⟩,.refl⟩
  ·refine Ops.no ?_
   refine Ops.no ?_
   refine oq (iH rfl rfl rfl) rfl (ak rfl rfl rfl) rfl rfl ?_
   refine agW (iH rfl rfl rfl) rfl ?_
   refine pq ?_
   refine W.bZ ?_
   refine W.skip ?_
   exact⟨rfl,rfl,⟨rfl,rfl,rfl,rfl,trivial⟩,.refl⟩
 ·refine W.seq<|W.seq<|W.region rfl<|qm rfl rfl rfl ?_
  refine agW (nG rfl rfl rfl) rfl ?_
  refine pq ?_
  refine W.bC rfl (fun c46=>?_) (fun c46=>?_)
  ·refine W.seq<|W.region rfl<|qm rfl rfl rfl ?_
   refine agW (dM rfl rfl) rfl ?_
   refine agW (nD rfl rfl rfl) rfl ?_
   refine qm rfl rfl rfl ?_
   refine Ops.ask (fun akX=>?_) (fun akX=>?_)
   ·refine cp (fun h' hE hL=>VW _ h' hS hmb _ _ (hE.1 _ _ (by assumption))) ?_
    refine agW (dG rfl rfl rfl) rfl ?_
    refine agb rfl rfl rfl<|pq<|W.ret<|aY ?_
    first | exact lvq rfl | (exfalso;omega)
   ·refine Ops.no ?_
    refine agW (iH rfl rfl rfl) rfl ?_
    refine agb rfl rfl rfl<|pq<|W.ret<|aY ?_
    first | exact lvq rfl | (exfalso;omega)
  ·obtain⟨rfl,rfl⟩:e=0∧G=(List.range ps.length).filter (noW ps q):=by
    rcases hcs with h | ⟨h,-⟩
    ·exact h
    ·omega
   refine W.skip<|aA<|W.seq<|W.seq<|W.region rfl<|agb rfl rfl rfl<|pq<|W.block ?_
   refine W.loop (σ:=Nat) (fun i=>i≤ps.length) (fun i=>[(10,I i),(6,.slice aw ((List.range ps.length).filter (noW ps q)).length cw),(5,I q),(4,.slice a ps.length cap)]) (fun _=>[]) (fun i=>ps.length-i) 0 (Nat.zero_le _) ⟨rfl,rfl,rfl,rfl,trivial⟩ TW ?_
   rintro i hi
   refine W.seq<|W.seq<|W.region rfl<|qm rfl rfl rfl<|qm rfl rfl rfl ?_
   refine agW (dM rfl rfl) rfl ?_
   refine agW (fO rfl rfl rfl) rfl ?_
   refine pq ?_
   refine W.bC rfl (fun c56=>?_) (fun c56=>?_)
   ·have hil:i<ps.length:=by omega
    refine W.skip<|aA<|W.seq<|W.block<|W.seq<|W.region rfl<|qm rfl rfl rfl<|qm rfl rfl rfl ?_
    refine Ops.NK (cs:= #[I i]) (fun akY=>?_) rfl
    refine c0 (fun h' hE hL=>ajo _ h' ps [(i:Int)] _ _ (hsl.ext hE) (Sl.mk (hL akY _ (.head _)) rfl (Part.all [I i])) (by omega) (by simp)) (fun v3 A3 hO3=>?_)
    refine Ops.sb (F':=A3++[]) (.app .refl (.nil (.cons rfl .nil))) ?_
    have YO:=iP.yB (ajn (l:=[(i:Int)]) hps)
    have alj:(ah7 ps [(i:Int)]).length≤4:=YO.len
    refine agb rfl rfl rfl<|pq ?_
    refine JU hO3 (fun hz3 aiX aiY _=>?_)
    have alk:=aiX.1 _ _ hgz
    have akZ:=hsl.ext aiX
    have ak0:=hsl2.ext aiX
    refine W.seq<|W.region rfl<|qm rfl rfl rfl ?_
    refine c0 (fun h' hE hL=>V5 _ h' q Dn) (fun v A' hv=>?_)
    obtain⟨β,rfl,rfl⟩:=hv
    refine agb rfl rfl rfl<|agb rfl rfl rfl<|pq<|W.seq<|W.seq<|W.region rfl<|agb rfl rfl rfl<|pq ?_
    refine W.block ?_
    refine W.aa1 (fun(n:Nat) (β:Nat)=>n≤14) (fun n β=>[(14,I n),(13,.bool (ai1 (fun n k=>OD (ah7 ps [(i:Int)]) q n k&&dY ps k) n)),(12,V9 β),(11,v3),(10,I i),(6,.slice aw ((List.range ps.length).filter (noW ps q)).length cw),(5,I q),(4,.slice a ps.length cap)]) (fun n β=>[(β,bsO (OD (ah7 ps [(i:Int)]) q n))]) (fun n _=>14-n) 0 β (Nat.zero_le _) ⟨rfl,rfl,rfl,rfl,rfl,rfl,rfl,rfl,trivial⟩ .refl ?_
    rintro n β hn
    refine W.seq<|W.seq<|W.region rfl<|qm rfl rfl rfl ?_
    refine agW (Lr rfl rfl rfl) rfl ?_
    refine pq ?_
    refine W.bC rfl (fun c66=>?_) (fun c66=>?_)
    ·have agu:n<14:=by omega
     refine W.skip<|aA<|W.seq<|W.block<|W.seq<|W.seq<|W.region rfl<|agb rfl rfl rfl<|pq ?_
     refine W.block ?_
     refine W.loop (σ:=Nat) (fun k=>k≤13) (fun k=>[(15,I k),(13,.bool (aiV (fun n k=>OD (ah7 ps [(i:Int)]) q n k&&dY ps k) n k)),(14,I n),(12,V9 β),(11,v3),(10,I i),(6,.slice aw ((List.range ps.length).filter (noW ps q)).length cw),(5,I q),(4,.slice a ps.length cap)]) (fun _=>[(β,bsO (OD (ah7 ps [(i:Int)]) q n))]) (fun k=>13-k) 0 (Nat.zero_le _) ⟨rfl,lk rfl (by rw[ai8]),rfl,rfl,rfl,rfl,rfl,rfl,rfl,trivial⟩ .refl ?_
     rintro k hk
     refine W.seq<|W.seq<|W.region rfl<|qm rfl rfl rfl ?_
     refine agW (Lr rfl rfl rfl) rfl ?_
     refine pq ?_
     refine W.bC rfl (fun c70=>?_) (fun c70=>?_)
     ·have Vq:k<13:=by omega
      have hx:(bA (OD (ah7 ps [(i:Int)]) q n))[0+k*1]? =some (.bool (OD (ah7 ps [(i:Int)]) q n k)):=by rw[show 0+k*1=k by omega];exact L9 Vq
      refine W.skip<|aA<|W.seq<|W.block<|W.region rfl<|qm rfl rfl rfl<|qm rfl rfl rfl ?_
      refine Ops.RV (fun aiS=>?_) (fun aiS=>?_)
      ·refine Ops.no ?_
       refine Ops.no ?_
       refine Ops.no ?_
       refine Ops.no ?_
       refine Ops.no ?_
       refine Ops.noU ?_
       refine Ops.noU ?_
       refine Ops.noU ?_
       refine Ops.no ?_
       refine agW (dG rfl rfl rfl) rfl ?_
       refine agb rfl rfl rfl<|Ops.nil<|dI<|aA<|W.region rfl<|qm rfl rfl rfl ?_
       refine ag1 rfl ?_
       refine agb rfl rfl rfl<|pq ?_
       refine⟨rfl,k+1,Vq,by omega,⟨rfl,lk rfl (congrArg Value.bool ?_),rfl,rfl,rfl,rfl,rfl,rfl,rfl,trivial⟩,.refl⟩
       rw[aiw]
       first | (rw[aiS];rfl) | (rw[aiS,ai3];rfl)
      ·refine oq (aN rfl rfl) rfl (ak rfl rfl rfl) rfl rfl ?_
       refine oq (aN rfl rfl) rfl (ak rfl rfl rfl) rfl rfl ?_
       first | refine oq (G_ rfl rfl rfl) rfl (ak rfl rfl rfl) rfl rfl ?_ | refine oq (o_ rfl rfl rfl) rfl (ak rfl rfl rfl) rfl rfl ?_
       refine oq (iQ rfl rfl) rfl (ak rfl rfl rfl) rfl rfl ?_
       refine oq (aN rfl rfl) rfl (ak rfl rfl rfl) rfl rfl ?_
       refine Ops.RV (fun ai3=>?_) (fun ai3=>?_)
       ·refine oq (aN rfl rfl) rfl (ak rfl rfl rfl) rfl rfl ?_
        refine oq (aN rfl rfl) rfl (ak rfl rfl rfl) rfl rfl ?_
        refine cp (g:=some _) (fun h' hE hL=>ah6 _ h' ps _ k (akZ.ext hE) (by omega)) ?_
        refine oq (dG rfl rfl rfl) rfl (ak rfl rfl rfl) rfl rfl ?_
        refine agW (iH rfl rfl rfl) rfl ?_
        refine agb rfl rfl rfl<|Ops.nil<|dI<|aA<|W.region rfl<|qm rfl rfl rfl ?_
        refine ag1 rfl ?_
        refine agb rfl rfl rfl<|pq ?_
        refine⟨rfl,k+1,Vq,by omega,⟨rfl,lk rfl (congrArg Value.bool ?_),rfl,rfl,rfl,rfl,rfl,rfl,rfl,trivial⟩,.refl⟩
        rw[aiw]
        first | (rw[aiS];rfl) | (rw[aiS,ai3];rfl)
       ·refine Ops.no ?_
        refine Ops.no ?_
        refine Ops.no ?_
        refine oq (iH rfl rfl rfl) rfl (ak rfl rfl rfl) rfl rfl ?_
        refine agW (iH rfl rfl rfl) rfl ?_
        refine agb rfl rfl rfl<|Ops.nil<|dI<|aA<|W.region rfl<|qm rfl rfl rfl ?_
        refine ag1 rfl ?_
        refine agb rfl rfl rfl<|pq ?_
        refine⟨rfl,k+1,Vq,by omega,⟨rfl,lk rfl (congrArg Value.bool ?_),rfl,rfl,rfl,rfl,rfl,rfl,rfl,trivial⟩,.refl⟩
        rw[aiw]
        first | (rw[aiS];rfl) | (rw[aiS,ai3];rfl)
     ·refine W.exit<|bP<|bP<|gG<|aA<|W.region rfl<|qm rfl rfl rfl<|qm rfl rfl rfl ?_
      refine c0 (fun h' hE hL=>Y5 _ h' (ah7 ps [(i:Int)]) _ (OD (ah7 ps [(i:Int)]) q n) β _ _ (aiY.ext hE) YO (hL β _ (.head _))) (fun v A' hv=>?_)
      obtain⟨β',rfl,af4⟩:=hv
      refine Ops.sb (F':=[(β',bsO (OD (ah7 ps [(i:Int)]) q (n+1)))]) (.right af4 (.cons rfl .nil)) ?_
      refine agb rfl rfl rfl<|Ops.nil<|dI<|aA<|W.region rfl<|qm rfl rfl rfl ?_
      refine ag1 rfl ?_
      refine agb rfl rfl rfl<|pq ?_
      obtain rfl:k=13:=by omega
      exact⟨rfl,n+1,β',by omega,by omega,⟨rfl,lk rfl (by rw[ai9]),rfl,rfl,rfl,rfl,rfl,rfl,trivial⟩,.refl⟩
    ·obtain rfl:n=14:=by omega
     rw[aje (c:=2 ^ i) hps Dn (fun j hj=>by rw[Nat.testBit_two_pow];simp;omega)]
     refine W.exit<|bP<|bP<|gG<|aA<|W.seq<|W.region rfl<|qm rfl rfl rfl<|qm rfl rfl rfl<|qm rfl rfl rfl ?_
     refine c0 (fun h' hE hL=>afl _ h' _ _ i (ak0.ext hE) (by rw[kT];omega)) (fun v A' hv=>?_)
     obtain⟨fi,rfl,hfi,hA⟩:=hv
     refine Ops.sb (F':=[]) (.nil (hA.app (.cons rfl .nil))) ?_
     have hfw:decide (0≤fi)=noW ps q i:=by
      rw[Bool.eq_iff_iff,decide_eq_true_iff,hfi,zs,List.mem_map]
      constructor
      ·rintro⟨n,hn,e⟩
       obtain rfl:n=i:=by omega
       exact(List.mem_filter.1 hn).2
      ·exact fun h=>⟨i,List.mem_filter.2 ⟨List.mem_range.2 hil,h⟩,rfl⟩
     refine KU (IJ rfl rfl rfl) (congrArg Value.bool hfw) rfl wn rfl rfl ?_
     refine KU (ajG rfl rfl rfl) (congrArg Value.bool (show(((Ah (dO ps (2 ^ i)) q).find? fun w=>dY ps w.2).isSome==noW ps q i)=false by rw[noW,shF];cases(Ah (dO ps (2 ^ i)) q).find? fun w=>dY ps w.2 <;>rfl)) rfl wn rfl rfl ?_
     refine pq ?_
     refine W.bZ ?_
     refine W.skip<|dI<|aA<|W.region rfl<|qm rfl rfl rfl ?_
     refine ag1 rfl ?_
     refine agb rfl rfl rfl<|pq ?_
     exact⟨rfl,i+1,hil,by omega,⟨rfl,rfl,rfl,rfl,trivial⟩,TW⟩
   ·refine W.exit<|bP<|bP<|gG<|aA<|W.seq<|W.region rfl ?_
    refine cp (fun h' hE hL=>VW _ h' hS hmb _ _ (hE.1 _ _ (by assumption))) ?_
    refine agb rfl rfl rfl<|pq<|W.ret ?_
    exact lvq rfl
end Go.aS

/- SyrupForced's card. Conditions: as the card says; over the given program. -/
namespace Go.Proofs.YtkkdgffaohidnaaGreatDoor
open Go Go.aS
set_option maxRecDepth 100000
set_option maxHeartbeats 4000000
theorem ain:joinedFacts prog ahf ahg Rows.syrupForcedSpec Rows.syrupForcedRow=true:=by
 unfold joinedFacts
 repeat' with_reducible refine Bool.and_eq_true_iff.2 ⟨?_,?_⟩
 all_goals first
  | with_reducible exact aci
  | (with_reducible refine makeT ?_;kernel_rfl)
  | (with_reducible refine aeb ?_;kernel_rfl)
  | (as_aux_lemma=>kernel_rfl)
theorem ah9:prog.funcNamed Rows.syrupForcedRow.func=some ahf:=by kernel_rfl
theorem aiN:prog.mainIs=some (true, "dbc29bbb9727fbebaf7429f7266f9d82b5a02ec0969210b724e1ed2dac66cc8d".toList):=ad9
theorem aiO:true=Rows.syrupForcedRow.goesBy prog:=by kernel_rfl
theorem aiv:true=prog.looks []:=by kernel_rfl
theorem aiQ:Rows.SyrupForcedSaid:=
 OpenClaim.holds_of_wide_leaving_time ahf ahg rfl rfl rfl rfl rfl rfl rfl ⟨rfl,rfl,rfl,rfl,rfl⟩ rfl rfl rfl rfl rfl ah9 ahL ain
  (of_decide_eq_true (by kernel_rfl)) (by unfold Func.isWrapper;first | (rw[if_pos (by decide+kernel)];kernel_rfl) | (rw[if_neg (by decide+kernel)];exact⟨rfl,rfl⟩))
  (
   fun os started H enc _ F=>ad7 (s:=Rows.syrupForcedSpec) os started H enc ahL (by kernel_rfl) (by kernel_rfl) (by kernel_rfl) (by kernel_rfl) (by kernel_rfl) rfl (fun _=>rfl)
   (OB (enc:=enc) (C:=Tryz.checked) (os:=os) (X:=fun w _=>laidMetH prog J9 w) (laidWorld os) #[.slice none 0 0] 8 rfl (by kernel_rfl) (by kernel_rfl) (by kernel_rfl) (by kernel_rfl) (by kernel_rfl) (laidWorld_met os _))
   (fun main hS hmb h nums lv Eg zg hl hg z0=>aiP main hS hmb h nums lv Eg zg hl hg z0) F)

theorem SyrupForced_card:Rows.SyrupForcedCardSaid:=
 VZ .later [] [.handle] true (true, "dbc29bbb9727fbebaf7429f7266f9d82b5a02ec0969210b724e1ed2dac66cc8d") true
  aiQ (fun _ h=>by cases h) (by kernel_rfl) (fun _ h=>by cases h) syrupForced_row_tie rfl ⟨rfl,rfl⟩ aiN rfl
  (
   fun f fn hf hfn=>by
   obtain rfl:f=ahf:=(Option.some.inj (ah9.symm.trans hf)).symm
   obtain rfl:fn=ahg:=(Option.some.inj (ahL.symm.trans hfn)).symm
   exact⟨aiv,fun j t ht=>by
    rw[show(ahg).params= #[nS] by kernel_rfl]at ht
    have h3:t=nS:=by
     rcases j with _ | j
     ·simpa using ht.symm
     ·simp at ht
    subst h3
    exact(show prog.wantsStandIn nS=false by kernel_rfl)⟩)
  aiO
#print axioms SyrupForced_card
end Go.Proofs.YtkkdgffaohidnaaGreatDoor
