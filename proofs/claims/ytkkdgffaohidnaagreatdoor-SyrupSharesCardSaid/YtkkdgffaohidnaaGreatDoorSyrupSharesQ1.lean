/- Treacle, as the document has it. Conditions: none; over the given program. (And 55 texts more.) -/
import Derived.Test.YtkkdgffaohidnaaGreatDoorR13
import Derived.Test.YtkkdgffaohidnaaGreatDoorR10
import Derived.Test.YtkkdgffaohidnaaGreatDoorR12
import Derived.Test.YtkkdgffaohidnaaGreatDoorR09
import Derived.Test.YtkkdgffaohidnaaGreatDoorR11
set_option linter.unusedVariables false
set_option linter.unusedSimpArgs false
set_option linter.unusedSectionVars false

/- Treacle, as the document has it. Conditions: none; over the given program. -/
namespace Go.aS
set_option maxRecDepth 100000
set_option maxHeartbeats 4000000
theorem aii(main:Side)(h:Hp)(n lo hi:Int):Pu prog main ahB #[I n,I lo,I hi] h (.bool (decide (lo≤n)&&decide (n≤hi))):=by
 refine dV.aG ah1 rfl (by show 3≤15;decide) [(0,I n),(1,I lo),(2,I hi)] ⟨rfl,rfl,rfl,trivial⟩ ?_
 refine W.seq<|W.region rfl<|agb rfl rfl rfl<|pq<|W.seq<|W.region rfl<|qm rfl rfl rfl<|qm rfl rfl rfl ?_
 refine agW (IJ rfl rfl rfl) rfl ?_
 refine qm rfl rfl rfl ?_
 refine Ops.ask (fun ae5=>?_) (fun ae5=>?_)
 ·refine oq (aN rfl rfl) rfl (ak rfl rfl rfl) rfl rfl ?_
  refine oq (aN rfl rfl) rfl (ak rfl rfl rfl) rfl rfl ?_
  refine oq (Lr rfl rfl rfl) rfl (ak rfl rfl rfl) rfl rfl ?_
  refine agW (dG rfl rfl rfl) rfl ?_
  refine agb rfl rfl rfl<|pq<|W.ret ?_
  refine uZ ?_
  exact congrArg Value.bool (by simp[*])
 ·refine Ops.no ?_
  refine Ops.no ?_
  refine Ops.no ?_
  refine agW (iH rfl rfl rfl) rfl ?_
  refine agb rfl rfl rfl<|pq<|W.ret ?_
  refine uZ ?_
  exact congrArg Value.bool (by simp[*])
theorem aik(main:Side)(h:Hp)(p:Pn)(q:Int):Pu prog main ahz #[p.val,I q] h (.bool (p.takes q)):=by
 refine dV.aG ah0 rfl (by show 2≤11;decide) [(0,p.val),(1,I q)] ⟨rfl,rfl,trivial⟩ ?_
 refine W.seq<|W.region rfl ?_
 refine Ops.box (cs:= #[I p.lo,I p.hi,I p.sh]) (fun yR=>?_)
 refine agb rfl rfl rfl<|pq<|W.seq<|W.region rfl<|qm rfl rfl rfl ?_
 refine agY rfl ?_
 refine agX rfl ?_
 refine agY rfl ?_
 refine agX rfl ?_
 refine cp (fun h' hE hL=>aii _ h' q p.lo p.hi) ?_
 refine agb rfl rfl rfl<|pq<|W.ret ?_
 exact uZ rfl
theorem ah6(main:Side)(h:Hp)(ps:List Pn)(vp:Value)(q:Int)(hf:Sl h Pn.row vp ps)(hn:ps.length≤1000):Pu prog main ahr #[vp,I q] h (.bool (dY ps q)):=by
 obtain⟨a,cap,rfl⟩:=hf.dA
 refine dV.aG ahS rfl (by show 2≤18;decide) [(0,.slice a ps.length cap),(1,I q)] ⟨rfl,rfl,trivial⟩ ?_
 refine W.seq<|W.region rfl<|agb rfl rfl rfl<|pq<|W.seq<|W.seq<|W.region rfl<|agb rfl rfl rfl<|Ops.nil ?_
 refine aA<|W.block ?_
 refine W.loop (σ:=Nat) (fun i=>i≤ps.length∧dY ps q=dY (ps.drop i) q) (fun i=>[(5,I i),(0,.slice a ps.length cap),(1,I q)]) (fun _=>[]) (fun i=>ps.length-i) 0 ⟨Nat.zero_le _,rfl⟩ ⟨rfl,rfl,rfl,trivial⟩ .refl ?_
 rintro i ⟨hi,ht⟩
 refine W.seq<|W.seq<|W.region rfl<|qm rfl rfl rfl<|qm rfl rfl rfl ?_
 refine agW (dM rfl rfl) rfl ?_
 refine agW (fO rfl rfl rfl) rfl ?_
 refine pq ?_
 refine W.bC rfl (fun c9=>?_) (fun c9=>?_)
 ·have hil:i<ps.length:=by omega
  obtain⟨p,hp,hdr⟩:=has hil
  rw[hdr,show dY (p::ps.drop (i+1)) q=(!p.takes q&&dY (ps.drop (i+1)) q)from rfl]at ht
  obtain⟨b,off,c,E,fz,hv,hb,hx,hy,hz⟩:=hf.at hp
  cases hv
  have hx':c.extract (off+i*3) (off+i*3+3)= #[I p.lo,I p.hi,I p.sh]:=hx
  clear hx
  refine W.skip<|aA<|W.seq<|W.block<|W.seq<|W.region rfl<|qm rfl rfl rfl<|qm rfl rfl rfl ?_
  refine ag3 rfl ?_
  refine ag2 rfl ?_
  refine qm rfl rfl rfl ?_
  refine cp (fun h' hE hL=>aik _ h' p q) ?_
  refine pq ?_
  refine W.cond rfl (fun c17=>?_) (fun c17=>?_)
  ·refine W.seq<|W.region rfl<|agb rfl rfl rfl<|pq<|W.ret<|cZ<|aY<|aY<|cZ ?_
   refine aY ?_
   refine uZ ?_
   rw[ht,c17];rfl
  ·refine W.skip<|dI<|aA<|W.region rfl<|qm rfl rfl rfl ?_
   refine ag1 rfl ?_
   refine agb rfl rfl rfl<|pq ?_
   refine⟨rfl,i+1,⟨hil,?_⟩,by omega,⟨rfl,rfl,rfl,trivial⟩,.refl⟩
   rw[ht,show p.takes q=false by simpa using c17];rfl
 ·refine W.exit<|bP<|bP<|gG<|aA<|W.seq<|W.region rfl<|agb rfl rfl rfl<|pq ?_
  refine W.ret ?_
  obtain rfl:i=ps.length:=by omega
  refine uZ ?_
  rw[ht,List.drop_length];rfl
end Go.aS

/- Pans that are checked, and which of them take a syrup, as the document has it and as the program has it. Conditions: none; over the given program. -/
namespace Go.aS
set_option maxRecDepth 100000
set_option maxHeartbeats 4000000
theorem akO(n lo hi:Int):(!(decide (lo≤n)&&decide (n≤hi)))=decide (outs n lo hi):=by
 rw[←Bool.decide_and,←decide_not]
 exact decide_eq_decide.2 (by unfold outs;omega)
theorem ak9(main:Side)(h:Hp)(ps:List Pn)(vp:Value)(hf:Sl h Pn.row vp ps):Pu prog main akx #[vp] h (I (nV ps)):=by
 obtain⟨a,cap,rfl⟩:=hf.dA
 refine dV.aG akM rfl (by show 1≤37;decide) [(0,.slice a ps.length cap)] ⟨rfl,trivial⟩ ?_
 refine W.seq<|W.region rfl<|agb rfl rfl rfl<|pq<|W.seq<|W.seq<|W.region rfl<|qm rfl rfl rfl ?_
 refine agW (dM rfl rfl) rfl ?_
 refine agW (rC rfl rfl rfl) rfl ?_
 refine pq ?_
 refine W.bC rfl (fun c7=>?_) (fun c7=>?_)
 ·refine W.seq<|W.region rfl<|agb rfl rfl rfl<|pq<|W.ret<|aY ?_
  refine uZ ?_
  show I _=I _;congr 1;rw[nV,if_pos (by omega)]
 ·have h4:ps.length≤4:=by omega
  have hcp:nV ps=lX ps:=by rw[nV,if_neg (by omega)]
  refine W.skip<|aA<|W.seq<|W.seq<|W.region rfl<|agb rfl rfl rfl<|pq<|W.block ?_
  refine W.loop (σ:=Nat) (fun i=>i≤ps.length∧lX ps=lX (ps.drop i)) (fun i=>[(3,I i),(0,.slice a ps.length cap)]) (fun _=>[]) (fun i=>ps.length-i) 0 ⟨Nat.zero_le _,rfl⟩ ⟨rfl,rfl,trivial⟩ .refl ?_
  rintro i ⟨hi,ht⟩
  refine W.seq<|W.seq<|W.region rfl<|qm rfl rfl rfl<|qm rfl rfl rfl ?_
  refine agW (dM rfl rfl) rfl ?_
  refine agW (fO rfl rfl rfl) rfl ?_
  refine pq ?_
  refine W.bC rfl (fun c11=>?_) (fun c11=>?_)
  ·have hil:i<ps.length:=by omega
   obtain⟨p,hp,hdr⟩:=has hil
   rw[hdr,lX]at ht
   obtain⟨b,off,c,E,fz,hv,hb,hx,hy,hz⟩:=hf.at hp
   cases hv
   have hx':c.extract (off+i*3) (off+i*3+3)= #[I p.lo,I p.hi,I p.sh]:=hx
   clear hx
   refine W.skip<|aA<|W.seq<|W.block<|W.seq<|W.region rfl<|qm rfl rfl rfl<|qm rfl rfl rfl ?_
   refine ag3 rfl ?_
   refine ag2 rfl ?_
   refine Ops.new (fun wC=>?_)
   refine Ops.jP (vs:= #[I p.lo,I p.hi,I p.sh]) ?_
   refine pq<|W.seq<|W.seq<|W.region rfl ?_
   refine agY rfl ?_
   refine agX rfl ?_
   refine cp (fun h' hE hL=>aii _ h' p.lo 0 12) ?_
   refine KU (xU rfl rfl) (congrArg Value.bool (akO p.lo 0 12)) rfl wn rfl rfl ?_
   refine qm rfl rfl rfl ?_
   refine Ops.ask (fun alJ=>?_) (fun alJ=>?_)
   ·refine Ops.no ?_
    refine Ops.no ?_
    refine Ops.no ?_
    refine Ops.no ?_
    refine agW (dG rfl rfl rfl) rfl ?_
    refine pq ?_
    refine W.dW ?_
    refine W.seq<|W.region rfl<|agb rfl rfl rfl<|pq<|W.ret<|aY<|cZ<|aY<|aY ?_
    refine cZ<|aY ?_
    have hk:gW p=1:=by rw[gW,if_pos (by first | exact .inl (by assumption) | exact .inr (by assumption))]
    refine uZ ?_
    show I _=I _;congr 1;rw[hcp,ht,hk];rfl
   ·refine oq (ay rfl rfl) rfl (ak rfl rfl rfl) rfl rfl ?_
    refine oq (iQ rfl rfl) rfl (ak rfl rfl rfl) rfl rfl ?_
    refine cp (g:=some _) (fun h' hE hL=>aii _ h' p.hi 0 12) ?_
    refine KU (xU rfl rfl) (congrArg Value.bool (akO p.hi 0 12)) rfl (ak rfl rfl rfl) rfl rfl ?_
    refine agW (iH rfl rfl rfl) rfl ?_
    refine pq ?_
    refine W.bC rfl (fun c27=>?_) (fun c27=>?_)
    ·refine W.seq<|W.region rfl<|agb rfl rfl rfl<|pq<|W.ret<|aY<|cZ<|aY<|aY ?_
     refine cZ<|aY ?_
     have hk:gW p=1:=by rw[gW,if_pos (by first | exact .inl (by assumption) | exact .inr (by assumption))]
     refine uZ ?_
     show I _=I _;congr 1;rw[hcp,ht,hk];rfl
    ·refine W.skip<|aA<|W.seq<|W.seq<|W.region rfl ?_
     refine agY rfl ?_
     refine agX rfl ?_
     refine agY rfl ?_
     refine agX rfl ?_
     refine agW (rC rfl rfl rfl) rfl ?_
     refine pq ?_
     refine W.bC rfl (fun c32=>?_) (fun c32=>?_)
     ·refine W.seq<|W.region rfl<|agb rfl rfl rfl<|pq<|W.ret<|aY<|cZ<|aY<|aY ?_
      refine cZ<|aY ?_
      have hk:gW p=5:=by rw[gW,if_neg (by intro h;rcases h with h | h <;>contradiction),if_pos (by omega)]
      refine uZ ?_
      show I _=I _;congr 1;rw[hcp,ht,hk];rfl
     ·refine W.skip<|aA<|W.seq<|W.region rfl ?_
      refine agY rfl ?_
      refine agX rfl ?_
      refine cp (fun h' hE hL=>aii _ h' p.sh (-6) 6) ?_
      refine KU (xU rfl rfl) (congrArg Value.bool (akO p.sh (-6) 6)) rfl wn rfl rfl ?_
      refine pq ?_
      refine W.bC rfl (fun c36=>?_) (fun c36=>?_)
      ·refine W.seq<|W.region rfl<|agb rfl rfl rfl<|pq<|W.ret<|cZ<|aY<|aY<|cZ ?_
       refine aY ?_
       have hk:gW p=1:=by rw[gW,if_neg (by intro h;rcases h with h | h <;>contradiction),if_neg (by omega),if_pos (by assumption)]
       refine uZ ?_
       show I _=I _;congr 1;rw[hcp,ht,hk];rfl
      ·refine W.skip<|dI<|aA<|W.region rfl<|qm rfl rfl rfl ?_
       refine ag1 rfl ?_
       refine agb rfl rfl rfl<|pq ?_
       have hk:gW p=0:=by rw[gW,if_neg (by intro h;rcases h with h | h <;>contradiction),if_neg (by omega),if_neg (by assumption)]
       exact⟨rfl,i+1,⟨hil,by rw[ht,hk];rfl⟩,by omega,⟨rfl,rfl,trivial⟩,.skip rfl .refl⟩
  ·refine W.exit<|bP<|bP<|gG<|aA<|W.seq<|W.region rfl<|agb rfl rfl rfl<|pq ?_
   refine W.ret ?_
   obtain rfl:i=ps.length:=by omega
   refine uZ ?_
   show I _=I _;congr 1;rw[hcp,ht,List.drop_length];rfl
end Go.aS

/- A way through the pans, as the document has it. Conditions: none; over the given program. -/
namespace Go.aS
set_option maxRecDepth 100000
set_option maxHeartbeats 4000000
end Go.aS

/- Operations that come up in any order and only add to what is owned. Conditions: none; over any program. -/
namespace Go.aS
abbrev Spc:=Nat×Nat×(Value→ah→Prop)
def waits(ops:Array Oper):Nat→Nat→Nat→Bool
 | 0,_,_=>false
 | n+1,k,b=>match ops[k]? with | some o=>o.after.any fun e=>iG e&&(Nat.beq e.on b|| waits ops n e.on b) | none=>false
structure Y4(ops:Array Oper)(listed:Nat)(B:List Nat):Prop where
 cl:Closed ops listed
 low:∀k o,ops[k]? =some o→∀e∈o.after,iG e=true→e.on<k
 or:∀k,k<ops.size→listed.testBit k=false→k∈B∨∀b∈B,waits ops 6 k b=true
 un:∀b∈B,b<ops.size∧listed.testBit b=false
 nd:B.Nodup

theorem Y4.some{ops:Array Oper}{listed:Nat}{B:List Nat}(h:Y4 ops listed B){b:Nat}(hb:b∈B):qx ops listed≠[]:=by
 have key:∀(n k:Nat),k<n→k<ops.size→listed.testBit k=false→∃i,Fq ops listed i=true:=by
  intro n
  induction n with
  | zero=>intro k hk;omega
  | succ n ih=>
   intro k hk hlt hl
   by_cases hr:Fq ops listed k=true
   ·exact⟨k,hr⟩
   ·simp only[Fq,Array.getElem?_eq_getElem hlt,hl,Bool.not_false,Bool.true_and,Array.all_eq_true_iff_forall_mem,Bool.or_eq_true,Bool.not_eq_true']at hr
    have:∃e∈(ops[k]).after,iG e=true∧listed.testBit e.on=false:=by
     refine Classical.byContradiction fun hn=>hr fun e he=>?_
     cases hbe:iG e with
     | false=>exact .inl rfl
     | true=>
      cases ht:listed.testBit e.on with
      | true=>exact .inr rfl
      | false=>exact absurd ⟨e,he,hbe,ht⟩ hn
    obtain⟨e,he,h1,h2⟩:=this
    have:=h.low k _ (Array.getElem?_eq_getElem hlt) e he h1
    exact ih e.on (by omega) (by omega) h2
 obtain⟨i,hi⟩:=key (b+1) b (by omega) (h.un b hb).1 (h.un b hb).2
 intro e
 have:=o8.2 hi
 rw[e]at this
 cases this

theorem Y4.step{ops:Array Oper}{listed j:Nat}{B1 B2:List Nat}(h:Y4 ops listed (B1++j::B2))(hj:Fq ops listed j=true):Y4 ops (listed||| 2 ^ j) (B1++B2):=by
 have hnd:j∉B1++B2:=by
  have:=(List.perm_middle (a:=j) (l₁:=B1) (l₂:=B2)).nodup_iff.1 h.nd
  exact(List.nodup_cons.1 this).1
 refine⟨h.cl.step hj,h.low,fun k hk hl=>?_,fun b hb=>?_,?_⟩
 ·rw[testBit_or,Bool.or_eq_false_iff]at hl
  have hne:j≠k:=by simpa using hl.2
  rcases h.or k hk hl.1 with h' | h'
  ·left
   rcases List.mem_append.1 h' with h' | h'
   ·exact List.mem_append_left _ h'
   ·rcases List.mem_cons.1 h' with h' | h'
    ·exact absurd h'.symm hne
    ·exact List.mem_append_right _ h'
  ·right
   intro b hb
   refine h' b ?_
   rcases List.mem_append.1 hb with hb | hb
   ·exact List.mem_append_left _ hb
   ·exact List.mem_append_right _ (List.mem_cons_of_mem _ hb)
 ·have hb':b∈B1++j::B2:=by
   rcases List.mem_append.1 hb with hb | hb
   ·exact List.mem_append_left _ hb
   ·exact List.mem_append_right _ (List.mem_cons_of_mem _ hb)
  refine⟨(h.un b hb').1,?_⟩
  rw[testBit_or,(h.un b hb').2,Bool.false_or,decide_eq_false_iff_not]
  rintro rfl
  exact hnd hb
 ·have:=(List.perm_middle (a:=j) (l₁:=B1) (l₂:=B2)).nodup_iff.1 h.nd
  exact(List.nodup_cons.1 this).2

def Adds(x:Cx)(ops:Array Oper)(ε:Ev)(s:Spc):Prop:=
 ∃o,ops[s.1]? =some o∧o.dst=some s.2.1∧d_ o.dst x.n=true∧(∀c,o.op≠ .defer c)∧o.guard=none∧∀e,Cons ε e→∀F,Dx x o e F fun v F'=>∃A Lp,Lp.Perm F'∧s.2.2 v A∧Lp=A++F

theorem Cons.back{ε:Ev}{d:Nat}{v:Value}{e:Operand→Value}(h:Cons (upd ε (some d) v) e)(hd:ε d=none):Cons ε e:=fun y u hy=>h y u (by
 cases y with
 | tmp t=>
  simp only[UK,upd]at hy⊢
  cases hb:Nat.beq t d with
  | true=>rw[Nat.eq_of_beq_eq_true hb,hd]at hy;cases hy
  | false=>exact hy
 | _=>exact hy)

section rules
variable{x:Cx}{Q:Post}{ρ:Env}{ds:List Deferred}{F:ah}{ops:Array Oper}{L:ah}{fuel listed:Nat}
theorem Adds.of{i d:Nat}{P:Value→ah→Prop}{op:Op}{ty:TypeId}{pos:String}{bK:Array Edge}(ho:cO ops.toList i=some ⟨some d,op,ty,pos,bK,none⟩)(hd:Nat.blt d x.n=true)(hn:cu op=true)(H:∀F,Ef x ρ ⟨some d,op,ty,pos,bK,none⟩ F fun v F'=>∃A,P v A∧F'=A++F):Adds x ops (look ρ) (i,d,P):=
 ⟨_,aU ho,rfl,hd,gI hn,rfl,fun e he F=>(H F e fun y v hy=>he y v (by rw[DC];exact hy)).mono fun v F' ⟨Lp,p,A,hv,e⟩=>⟨A,Lp,p,hv,e⟩⟩
theorem Adds.call{i d f:Nat}{P:Value→ah→Prop}{args:List Operand}{ts:Array TypeId}{vs:List Value}{ty:TypeId}{pos:String}{bK:Array Edge}(H:∀h',Ext x.h h'→dV x.P x.main f vs.toArray h' [] P)(ho:cO ops.toList i=some ⟨some d,.call ⟨.value (.func f),args.toArray,ts⟩,ty,pos,bK,none⟩:=by rfl)[FB x.P f](hv:evs ρ args=some vs:=by rfl)(hd:Nat.blt d x.n=true:=by rfl):Adds x ops (look ρ) (i,d,P):=
 .of ho hd rfl fun F=>lQ rfl hv (fun h' hE _=>H h' hE) fun v A' hv=>⟨A',hv,rfl⟩
def axt(t:TypeId)(zc:Array Value)(v:Value)(A:ah):Prop:=∃β,v= .pointer (some ⟨β,0,none⟩)∧A=[(β,.cells zc t (0,0))]
theorem Adds.new{i d t s b:Nat}{z:Value}{zc:Array Value}{ty:TypeId}{pos:String}{bK:Array Edge}(ho:cO ops.toList i=some ⟨some d,.alloc t,ty,pos,bK,none⟩:=by rfl)[TI x.P t s b z zc](hd:Nat.blt d x.n=true:=by rfl):Adds x ops (look ρ) (i,d,axt t zc):=
 .of ho hd rfl fun F=>wJ rfl fun β _ _=>⟨_,⟨β,rfl,rfl⟩,rfl⟩
end rules
end Go.aS
namespace Go.aS
section
variable{α:Type}{row:α→List Value}{w:Nat}[rw':Rw row w]
section
variable{x:Cx}{ρ:Env}{F:ah}{o:Oper}{R:Value→ah→Prop}
end
end
section
variable{x:Cx}{S:ah→Prop}{ρ:Env}{o:Oper}
theorem ak8{t E s by':Nat}{z:Value}{zc:Array Value}{y lo:Operand}{a:Option Addr}{k:IntKind}{l cap m:Nat}(ho:o.op= .slice t y (some lo) none none)[TD x.P t (.slice E)][TI x.P E s by' z zc](hy:ev ρ y=some (.slice a l cap))(hh:ev ρ lo=some (.int k (m:Int)))(hm:m≤l:=by omega):Yv x S ρ o (.slice (if cap=m then a else a.map (·.add (m*s))) (l-m) (cap-m)):=fun e he F hF h' hE=>by
 have e1:(0:Int)≤m∧(m:Int)≤l:=by omega
 simp only[execOp,ho,he y _ hy,he lo _ hh,Instr.sliceAt,Instr.slice,Instr.sliceBounds,Instr.sliceBound,asIntOf,bind_eq,au,bind_assoc,bind_pure,Option.map_none,Option.map_some,aC,dH,if_pos e1,Int.toNat_natCast]
 exact⟨rfl,rfl⟩
end
end Go.aS
namespace Go.aS
section
variable{x:Cx}{Q:Post}{ρ:Env}{ds:List Deferred}{ops:Array Oper}{G:ah}{y₁ y₂ y₃ y₄ agp agq:Nat×Obj}{id n:Nat}
theorem W.avQ(hn:ops.size=n)(H:Any x ops [y₁,y₂,y₃,y₄] n 0 Q ρ ds (y₁::y₂::y₃::y₄::G))[MO x.P]:W x (.region id ops true) Q ρ ds (y₁::y₂::y₃::y₄::G):=W.DR _ hn H
end
theorem agQ{α:Type}{l l':List α}(h:∀[DecidableEq α] (a:α),l.count a=l'.count a):l.Perm l':=by
 classical
 exact List.perm_iff_count.2 fun a=>h a
end Go.aS
namespace Go.aS
theorem Os.open{α:Type}{row:α→List Value}{w:Nat}[Rw row w]{E:TypeId}{a:Option Addr}{n cap:Nat}{l:List α}{A:ah}(h:Os E row (.slice a n cap) l A)(hne:0<l.length):∃β c J,a=some ⟨β,0,none⟩∧A=(β,.cells c E (0,0))::J∧n=l.length∧c.size=cap*w∧l.length≤cap∧Part c 0 (flat row l)∧Shut J:=by
 rcases h with⟨rfl,_,_⟩ | ⟨β,c,cp,J,hv,rfl,h1,h2,h3,h4⟩
 ·simp at hne
 ·injection hv with e1 e2 e3
  subst e1 e2 e3
  exact⟨β,c,J,rfl,rfl,rfl,h1,h2,h3,h4⟩
end Go.aS

/- Slices of slices; makeSlice. Conditions: none; over any program. -/
namespace Go.aS
structure Sv where
  a:Option Addr
  n:Nat
  cap:Nat
abbrev Sv.val(s:Sv):Value:=.slice s.a s.n s.cap
def ags(s:Sv):List Value:=[.slice s.a s.n s.cap]
instance:Rw ags 1:=⟨fun _=>rfl,fun _=>rfl⟩

section
variable{α:Type}{row:α→List Value}{w:Nat}[rw':Rw row w]{E:TypeId}
inductive UG(E:TypeId)(row:α→List Value)[Rw row w]:List Sv→List (List α)→ah→Prop
  | nil:UG E row [] [] []
  | cons {s:Sv} {l:List α} {A B:ah} {vs:List Sv} {ls:List (List α)}:Os E row s.val l A→UG E row vs ls B→UG E row (s::vs) (l::ls) (A++B)
theorem UG.len{vs:List Sv}{ls:List (List α)}{A:ah}(h:UG E row vs ls A):vs.length=ls.length:=by
  induction h with
  | nil=>rfl
  | cons _ _ ih=>simp[ih]
theorem UG.shut{vs:List Sv}{ls:List (List α)}{A:ah}(h:UG E row vs ls A):Shut A:=by
  induction h with
  | nil=>exact .nil
  | cons h _ ih=>exact h.shut.app ih
theorem UG.snoc{vs:List Sv}{ls:List (List α)}{A B:ah}{s:Sv}{l:List α}(h:UG E row vs ls A)(hs:Os E row s.val l B):UG E row (vs++[s]) (ls++[l]) (A++B):=by
  induction h with
  | nil=>have:=UG.cons hs .nil;simpa using this
  | cons h1 _ ih=>have:=UG.cons h1 ih;rw[←List.append_assoc]at this;exact this
theorem UG.sl{vs:List Sv}{ls:List (List α)}{A:ah}{h':Hp}(h:UG E row vs ls A)(hL:∀b o,(b,o)∈A→h' b=some o):∀{k:Nat} {s:Sv} {l:List α},vs[k]? =some s→ls[k]? =some l→Sl h' row s.val l:=by
  induction h with
  | nil=>intro k s l hs;simp at hs
  | cons h1 _ ih=>
    intro k s l hs hl
    rcases k with _ | k
    · simp at hs hl;subst hs hl
      exact h1.sl fun b o hb=>hL b o (List.mem_append_left _ hb)
    · simp at hs hl
      exact ih (fun b o hb=>hL b o (List.mem_append_right _ hb)) hs hl
theorem agG{x:Cx}{c:Code}{Q:Post}{ρ:Env}{ds:List Deferred}{A F:ah}{vs:List Sv}{ls:List (List α)}(hs:UG E row vs ls A)
    (H:∀h',Ext x.h h'→(∀(k:Nat) (s:Sv) (l:List α),vs[k]? =some s→ls[k]? =some l→Sl h' row s.val l∧Zs h' s.val)→W {x with h:=h'} c Q ρ ds F):W x c Q ρ ds (A++F):=by
  induction hs generalizing x with
  | nil=>exact H x.h ⟨fun _ _ q=>q,fun _ q=>q⟩ fun k s l hk=>by simp at hk
  | cons h1 h2 ih=>
    rw[List.append_assoc]
    refine JU h1 fun h' hE hsl hz=>ih (x:={x with h:=h'}) fun h'' hE' hall=>H h'' (hE.trans hE') fun k s l hk hl=>?_
    rcases k with _ | k
    · simp at hk hl;subst hk hl
      exact⟨hsl.ext hE',hz.ext hE'⟩
    · simp at hk hl
      exact hall k s l hk hl
theorem Sv.eta{v:Value}{l:List α}{A:ah}(h:Os E row v l A):∃s:Sv,v=s.val:=by
  obtain⟨a,cap,rfl⟩:=h.dA
  exact⟨⟨a,_,cap⟩,rfl⟩
end
/-! makeSlice -/
section
variable{x:Cx}{ρ:Env}{F:ah}{o:Oper}{R:Value→ah→Prop}
theorem G8{t E by' n:Nat}{z:Value}{y y':Operand}(ho:o.op= .makeSlice t y y')[TD x.P t (.slice E)][TI x.P E 1 by' z #[z]](hy:ev ρ y=some (.int .i64 (n:Int)))(hy':ev ρ y'=some (.int .i64 (n:Int)))(hb:by'*n≤2 ^ 48∧n≤1000000)
    (K:∀β,R (.slice (some ⟨β,0,none⟩) n n) ((β,.cells (List.replicate n z).toArray E (0,0))::F)):Ef x ρ o F R:=
  Ef.xW fun e he h' hE=>by
    obtain⟨j,hj,hj1,hj2,hj3,hj4⟩:=TI.out (inferInstance:TI x.P E 1 by' z #[z])
    have hw:IntKind.i64.wrap (n:Int)=n:=nC (by omega) (by omega)
    have c1:¬((n:Int)<0):=by omega
    have c2:¬((by':Int)*(n:Int)>2 ^ 48):=by
                                                         have:((by'*n:Nat):Int)≤2 ^ 48:=by exact_mod_cast hb.1
                                                         rw[Int.natCast_mul]at this;omega
    have c3:¬((n:Int)>n):=by omega
    simp only[execOp,ho,he y _ hy,he y' _ hy',Instr.makeSlice,asInt,asIntOf,bind_eq,au,bind_assoc,bind_pure,aC,dJ hj,hj2,hw]
    simp only[c1,c2,c3,decide_false,Bool.or_false,Bool.false_eq_true,if_false]
    have room:∀{β:Type} {f:Unit→Sem β} {Q':β→ah→Prop},tr x.P h' (f ()) F Q'→tr x.P h' ((askRoom (((n:Int).toNat)*by')).bind f) F Q':=by
      intro β f Q' H
      unfold askRoom
      split
      · exact⟨rfl,H⟩
      · exact H
    refine bJ (room ?_)
    simp only[dH,Int.toNat_natCast,Nat.mul_one]
    have harr:(Array.range n).map (fun i=>(#[z]:Array Value)[i % (#[z]:Array Value).size]!)=(List.replicate n z).toArray:=by
      apply Array.ext
      · simp
      · intro i h1 h2
        simp[Nat.mod_one]
    by_cases h0:n=0
    · subst h0
      have e0:(Array.range 0).map (fun x=>(#[]:Array Value)[x % (#[]:Array Value).size]!)=(List.replicate 0 z).toArray:=by simp
      simp only[if_true,newRow,bind_eq,au,bind_assoc,bind_pure,e0]
      exact wI fun r h1 h2=>⟨_,.inl rfl,K r⟩
    · simp only[if_neg h0,fG,hj4,newRow,bind_eq,au,bind_assoc,bind_pure,harr]
      exact wI fun r h1 h2=>⟨_,.inl rfl,K r⟩
end
end Go.aS

/- Several cases of pans. Conditions: none; over the given program. -/
namespace Go.aS
set_option maxRecDepth 100000
set_option maxHeartbeats 4000000
theorem apA(main:Side)(h:Hp)(nums:List Int)(lv:Value)(b k:Nat)(s:Int)(ps:List Pn)(vp:Value)(p:Pn)(hl:Sl h fH lv nums)(hk:k≤5000)(hf:Sl h Pn.row vp ps):dV prog main aoM #[vp,p.val,bI b] h [(b,wF lv k s)]
  (fun v A=>∃(s0:Sv) (vs:List Sv) (ls:List (List Pn)) (S T:ah) (k':Nat) (s':Int),vp=s0.val∧Os aoG ags v (s0::vs) T∧UG Ag Pn.row vs ls S∧(vs.length=3∧∀l∈ls,l.length≤5)∧k'≤k+400∧Sb ((b,wF lv k' s')::T++S) A):=by
 obtain⟨a,cap,rfl⟩:=hf.dA
 refine dV.aG ao9 rfl (by show 3≤22;decide) [(0,.slice a ps.length cap),(1,p.val),(2,bI b)] ⟨rfl,rfl,rfl,trivial⟩ ?_
 refine W.seq<|W.region rfl ?_
 refine Ops.box (cs:= #[I p.lo,I p.hi,I p.sh]) (fun wC=>?_)
 refine agb rfl rfl rfl<|pq<|W.seq<|W.region rfl<|qm rfl rfl rfl ?_
 refine cg (A:=[(b,_)]) (.tail .all) (fun h' hE hL=>VT _ h' nums lv b k s 4 (hl.ext hE) (by omega) (by decide)) (fun v A' hv=>?_)
 obtain⟨l1,S1,k1,s1,hO1,⟨hl1,hck1⟩,hk1,Ym⟩:=hv
 refine Ops.sb (F':=(wC,.cells #[I p.lo,I p.hi,I p.sh] Ag (0,0))::((b,wF lv k1 s1)::S1)) (.cons Ym) ?_
 obtain⟨a1,cap1,rfl⟩:=hO1.dA
 refine qm rfl rfl rfl ?_
 refine cg (A:=[(b,_)]) (.tail .head) (fun h' hE hL=>OA _ h' nums lv b k1 s1 3 (hl.ext hE) (by omega) (by decide)) (fun v A' hv=>?_)
 obtain⟨l2,S2,k2,s2,hO2,⟨hl2,ar9⟩,hk2,Oh⟩:=hv
 refine Ops.sb (F':=(wC,.cells #[I p.lo,I p.hi,I p.sh] Ag (0,0))::((b,wF lv k2 s2)::(S2++S1))) (.cons (Oh.app .refl)) ?_
 obtain⟨a2,cap2,rfl⟩:=hO2.dA
 refine agb rfl rfl rfl<|agb rfl rfl rfl<|pq<|W.seq ?_
 refine W.mono (Q:=(fun e ρ' ds' F'=>e= .normal∧ds'=[]∧∃β w3 S3,Os Ag Pn.row (Sv.val w3) (l2++[p]) S3∧Sub [(6,.slice (some ⟨β,0,none⟩) 4 4)] ρ'∧
   Sb ((β,.cells #[.slice a ps.length cap,.slice a1 l1.length cap1,.slice a2 l2.length cap2,w3.val] aoG (0,0))::(S3++((b,wF lv k2 s2)::(S2++S1)))) F')) ?_ ?_
 ·refine W.DR [(wC,.cells #[I p.lo,I p.hi,I p.sh] Ag (0,0))] (n:=10) rfl ?_
  refine xq 0 (aN rfl rfl) rfl ?_
  refine xq 1 (aN rfl rfl) rfl ?_
  refine xq 2 (aN rfl rfl) rfl ?_
  refine xq 3 (aN rfl rfl) rfl ?_
  first | refine xq 5 (Bf rfl rfl) rfl ?_ | refine xq 5 (zi rfl rfl) rfl ?_
  have hdup:∀{h':Hp},Sl h' Pn.row (.slice a2 l2.length cap2) l2→dV prog main ag_ #[.slice a2 l2.length cap2] h' [] (fun v A=>∃S,Os Ag Pn.row v l2 S∧Sb S A):=fun hs=>aij _ _ l2 _ hs (by omega)
  refine Any.WB (i:=4) (j:=6) (by kernel_rfl) (aU rfl) (aU rfl) an an rfl rfl rfl rfl ?_ ?_
  ·refine QZ (args:=[_]) (A:=[]) rfl rfl (Seg.head (A:=[])) (fun h' hE hL=>hdup (hO2.sl fun b' o hb=>hL b' o (List.mem_cons_of_mem _ (List.mem_cons_of_mem _ (List.mem_append_left _ hb))))) (fun v A' hv=>?_)
   obtain⟨S3,hO3,afy⟩:=hv
   refine⟨.inr (.one (List.mem_append_right _ (.head _)) .nil),Any.sb (afy.app .refl) ?_⟩
   refine abl (i:=6) (cs:= #[I p.lo,I p.hi,I p.sh]) (fun akT=>?_) rfl (hk:=(.one (List.mem_append_right _ (.head _)) .nil)) (hf:=by kernel_rfl)
   refine ae (i:=7) rfl an rfl rfl (iW (row:=Pn.row) (l':=[p]) rfl rfl rfl hO3 (.tail .head) (fun h2 _ hl=>Sl.mk (hl akT _ (.head _)) rfl (Part.all (flat Pn.row [p]))) (by simp;omega) (by decide) rfl (fun v' S' Ie=>?_))
   refine⟨.inr (.one (.tail _ (List.mem_append_right _ (.head _))) .nil),?_⟩
   obtain⟨w3,rfl⟩:=Sv.eta Ie
   refine abl (i:=8) (cs:= #[.slice a ps.length cap,.slice a1 l1.length cap1,.slice a2 l2.length cap2,w3.val]) (fun aqf=>?_) rfl (hk:=(.one (.tail _ (List.mem_append_right _ (.head _))) .nil)) (hf:=by kernel_rfl)
   refine xq 9 (jS rfl rfl) rfl ?_ (hS:=(.one (.tail _ (.tail _ (List.mem_append_right _ (.head _)))) .nil))
   refine az ?_
   exact⟨rfl,rfl,aqf,w3,S',Ie,⟨rfl,trivial⟩,.cons (.skip rfl (.app .refl (.skip rfl .refl)))⟩
  ·refine DN (parts:=[⟨_,_⟩]) (cs:= #[I p.lo,I p.hi,I p.sh]) rfl rfl (by decide) (by decide) (by kernel_rfl) fun akT _ _=>⟨.inr (.one (.tail _ (.head _)) .nil),?_⟩
   refine ae (i:=4) rfl an rfl rfl (QZ (args:=[_]) (A:=[]) rfl rfl (Seg.head (A:=[])) (fun h' hE hL=>hdup (hO2.sl fun b' o hb=>hL b' o (List.mem_cons_of_mem _ (List.mem_cons_of_mem _ (List.mem_cons_of_mem _ (List.mem_append_left _ hb)))))) (fun v A' hv=>?_))
   obtain⟨S3,hO3,afy⟩:=hv
   refine⟨.inr (.one (List.mem_append_right _ (.tail _ (.head _))) .nil),Any.sb (afy.app .refl) ?_⟩
   refine ae (i:=7) rfl an rfl rfl (iW (row:=Pn.row) (l':=[p]) rfl rfl rfl hO3 .head (fun h2 _ hl=>Sl.mk (hl akT _ (.head _)) rfl (Part.all (flat Pn.row [p]))) (by simp;omega) (by decide) rfl (fun v' S' Ie=>?_))
   refine⟨.inr (.one (List.mem_append_right _ (.tail _ (.head _))) .nil),?_⟩
   obtain⟨w3,rfl⟩:=Sv.eta Ie
   refine abl (i:=8) (cs:= #[.slice a ps.length cap,.slice a1 l1.length cap1,.slice a2 l2.length cap2,w3.val]) (fun aqf=>?_) rfl (hk:=(.one (List.mem_append_right _ (.tail _ (.head _))) .nil)) (hf:=by kernel_rfl)
   refine xq 9 (jS rfl rfl) rfl ?_ (hS:=(.one (.tail _ (List.mem_append_right _ (.tail _ (.head _)))) .nil))
   refine az ?_
   exact⟨rfl,rfl,aqf,w3,S',Ie,⟨rfl,trivial⟩,.cons (.app .refl (.skip rfl (.skip rfl .refl)))⟩
 rintro e ρ' ds' F' ⟨rfl,rfl,β,w3,S3,hO3,hE3,afy⟩
 refine aA (W.env hE3 (W.sb afy ?_))
 refine W.ret ?_
 refine mg (vs:=[_]) ⟨⟨a,ps.length,cap⟩,[⟨a1,l1.length,cap1⟩,⟨a2,l2.length,cap2⟩,w3],[l1,l2,l2++[p]],S1++(S2++(S3++[])),[(β,.cells #[.slice a ps.length cap,.slice a1 l1.length cap1,.slice a2 l2.length cap2,w3.val] aoG (0,0))],k2,s2,rfl,?_,.cons hO1 (.cons hO2 (.cons hO3 .nil)),⟨rfl,?_⟩,by omega,?_⟩
 ·exact .inr ⟨β,_,4,[],rfl,rfl,rfl,Nat.le_refl _,Part.all (flat ags [⟨a,ps.length,cap⟩,⟨a1,l1.length,cap1⟩,⟨a2,l2.length,cap2⟩,w3]),.nil⟩
 ·intro l hl
  simp only[List.mem_cons,List.not_mem_nil,or_false]at hl
  rcases hl with rfl | rfl | rfl
  ·omega
  ·omega
  ·simp;omega
 ·refine .dF (agQ fun y=>?_)
  simp only[List.count_append,List.count_cons,List.count_nil];omega
end Go.aS

/- Lots and room that are checked, as the document has it. Conditions: none; over the given program. -/
namespace Go.aS
set_option maxRecDepth 100000
set_option maxHeartbeats 4000000
theorem atA(main:Side)(h:Hp)(ls:List Lt)(vl:Value)(hf:Sl h Lt.row vl ls):Pu prog main ati #[vl] h (I (Ig ls)):=by
 obtain⟨a,cap,rfl⟩:=hf.dA
 refine dV.aG atQ rfl (by show 1≤29;decide) [(0,.slice a ls.length cap)] ⟨rfl,trivial⟩ ?_
 refine W.seq<|W.region rfl<|agb rfl rfl rfl<|pq<|W.seq<|W.seq<|W.region rfl<|qm rfl rfl rfl ?_
 refine agW (dM rfl rfl) rfl ?_
 refine agW (rC rfl rfl rfl) rfl ?_
 refine pq ?_
 refine W.bC rfl (fun c6=>?_) (fun c6=>?_)
 ·refine W.seq<|W.region rfl<|agb rfl rfl rfl<|pq<|W.ret<|aY ?_
  refine uZ ?_
  show I _=I _;congr 1;simp only[Ig];rw[if_pos (by omega)]
 ·refine W.skip<|aA<|W.seq<|W.seq<|W.region rfl<|agb rfl rfl rfl<|pq<|W.block ?_
  refine W.loop (σ:=Nat) (fun k=>k≤ls.length∧ls.any Ar=(ls.drop k).any Ar) (fun k=>[(3,I k),(0,.slice a ls.length cap)]) (fun _=>[]) (fun k=>ls.length-k) 0 ⟨Nat.zero_le _,rfl⟩ ⟨rfl,rfl,trivial⟩ .refl ?_
  rintro k ⟨hk,hd⟩
  refine W.seq<|W.seq<|W.region rfl<|qm rfl rfl rfl<|qm rfl rfl rfl ?_
  refine agW (dM rfl rfl) rfl ?_
  refine agW (fO rfl rfl rfl) rfl ?_
  refine pq ?_
  refine W.bC rfl (fun c10=>?_) (fun c10=>?_)
  ·have hkl:k<ls.length:=by omega
   obtain⟨p,hp,hdr⟩:=has hkl
   rw[hdr,List.any_cons]at hd
   obtain⟨b,off,c,E,fz,hv,hb,hx,hy,hz⟩:=hf.at hp
   cases hv
   have hq2:c[off+k*2+0]? =some (I p.qu):=hz 0 (by decide)
   have hp2:c[off+k*2+1]? =some (I p.po):=hz 1 (by decide)
   clear hx hz
   refine W.skip<|aA<|W.seq<|W.block<|W.seq<|W.region rfl<|qm rfl rfl rfl<|qm rfl rfl rfl ?_
   refine ag3 rfl ?_
   refine agY rfl ?_
   refine agX rfl ?_
   refine cp (fun h' hE hL=>aii _ h' p.qu 0 12) ?_
   refine KU (xU rfl rfl) (congrArg Value.bool (akO p.qu 0 12)) rfl wn rfl rfl ?_
   refine qm rfl rfl rfl ?_
   refine Ops.ask (fun abO=>?_) (fun abO=>?_)
   ·refine Ops.no ?_
    refine Ops.no ?_
    refine Ops.no ?_
    refine Ops.no ?_
    refine Ops.no ?_
    refine Ops.no ?_
    refine Ops.no ?_
    refine agW (dG rfl rfl rfl) rfl ?_
    refine pq ?_
    refine W.dW ?_
    refine W.seq<|W.region rfl<|agb rfl rfl rfl<|pq<|W.ret<|cZ<|aY<|aY<|cZ ?_
    refine aY ?_
    refine uZ ?_
    have hc:Ar p=true:=by
     simp only[Ar,Bool.or_eq_true,decide_eq_true_eq]
     first | exact .inl ‹outs p.qu 0 12› | exact .inr ‹outs p.po 1 9›
    show I _=I _;congr 1;simp only[Ig];rw[if_neg (by omega),hd,hc];rfl
   ·refine oq (aN rfl rfl) rfl (ak rfl rfl rfl) rfl rfl ?_
    refine oq (aN rfl rfl) rfl (ak rfl rfl rfl) rfl rfl ?_
    first | refine oq (G_ rfl rfl rfl) rfl (ak rfl rfl rfl) rfl rfl ?_ | refine oq (o_ rfl rfl rfl) rfl (ak rfl rfl rfl) rfl rfl ?_
    refine oq (ay rfl rfl) rfl (ak rfl rfl rfl) rfl rfl ?_
    refine oq (iQ rfl rfl) rfl (ak rfl rfl rfl) rfl rfl ?_
    refine cp (g:=some _) (fun h' hE hL=>aii _ h' p.po 1 9) ?_
    refine KU (xU rfl rfl) (congrArg Value.bool (akO p.po 1 9)) rfl (ak rfl rfl rfl) rfl rfl ?_
    refine agW (iH rfl rfl rfl) rfl ?_
    refine pq ?_
    refine W.bC rfl (fun c28=>?_) (fun c28=>?_)
    ·refine W.seq<|W.region rfl<|agb rfl rfl rfl<|pq<|W.ret<|cZ<|aY<|aY<|cZ ?_
     refine aY ?_
     refine uZ ?_
     have hc:Ar p=true:=by
      simp only[Ar,Bool.or_eq_true,decide_eq_true_eq]
      first | exact .inl ‹outs p.qu 0 12› | exact .inr ‹outs p.po 1 9›
     show I _=I _;congr 1;simp only[Ig];rw[if_neg (by omega),hd,hc];rfl
    ·refine W.skip<|dI<|aA<|W.region rfl<|qm rfl rfl rfl ?_
     refine ag1 rfl ?_
     refine agb rfl rfl rfl<|pq ?_
     have hc:Ar p=false:=by
      simp only[Ar,Bool.or_eq_false_iff,decide_eq_false_iff_not]
      exact⟨‹¬outs p.qu 0 12›,‹¬outs p.po 1 9›⟩
     rw[hc,Bool.false_or]at hd
     exact⟨rfl,k+1,⟨by omega,hd⟩,by omega,⟨rfl,rfl,trivial⟩,TW⟩
  ·have:k=ls.length:=by omega
   subst this
   refine W.exit<|bP<|bP<|gG<|aA<|W.seq<|W.region rfl<|agb rfl rfl rfl<|pq ?_
   refine W.ret ?_
   refine uZ ?_
   show I _=I _;congr 1;simp only[Ig];rw[if_neg (by omega),hd];simp
theorem auh(main:Side)(h:Hp)(ps:List Pn)(rs:List Int)(vp vr:Value)(hp:Sl h Pn.row vp ps)(hf:Sl h fH vr rs)(h4:ps.length≤4):Pu prog main atd #[vp,vr] h (I (K_ ps.length rs)):=by
 obtain⟨a,cap,rfl⟩:=hf.dA
 obtain⟨a2,cap2,rfl⟩:=hp.dA
 refine dV.aG atH rfl (by show 2≤28;decide) [(0,.slice a2 ps.length cap2),(1,.slice a rs.length cap)] ⟨rfl,rfl,trivial⟩ ?_
 refine W.seq<|W.region rfl<|agb rfl rfl rfl<|pq<|W.seq<|W.seq<|W.region rfl<|qm rfl rfl rfl ?_
 refine agW (dM rfl rfl) rfl ?_
 refine qm rfl rfl rfl ?_
 refine agW (dM rfl rfl) rfl ?_
 refine agW (fO rfl rfl rfl) rfl ?_
 refine pq ?_
 refine W.bC rfl (fun c10=>?_) (fun c10=>?_)
 ·refine W.seq<|W.region rfl<|agb rfl rfl rfl<|pq<|W.ret<|aY ?_
  refine uZ ?_
  show I _=I _;congr 1;simp only[K_];rw[if_pos (by omega)]
 ·refine W.skip<|aA<|W.seq<|W.seq<|W.region rfl<|qm rfl rfl rfl ?_
  refine agW (dM rfl rfl) rfl ?_
  refine qm rfl rfl rfl ?_
  refine agW (dM rfl rfl) rfl ?_
  refine agW (rC rfl rfl rfl) rfl ?_
  refine pq ?_
  refine W.bC rfl (fun c15=>?_) (fun c15=>?_)
  ·refine W.seq<|W.region rfl<|agb rfl rfl rfl<|pq<|W.ret<|aY ?_
   refine uZ ?_
   show I _=I _;congr 1;simp only[K_];rw[if_neg (by omega),if_pos (by omega)]
  ·refine W.skip<|aA<|W.seq<|W.seq<|W.region rfl<|agb rfl rfl rfl<|pq<|W.block ?_
   refine W.loop (σ:=Nat) (fun k=>k≤rs.length∧rs.any (fun r=>decide (outs r 0 20))=(rs.drop k).any (fun r=>decide (outs r 0 20))) (fun k=>[(5,I k),(1,.slice a rs.length cap)]) (fun _=>[]) (fun k=>rs.length-k) 0 ⟨Nat.zero_le _,rfl⟩ ⟨rfl,rfl,trivial⟩ .refl ?_
   rintro k ⟨hk,hd⟩
   refine W.seq<|W.seq<|W.region rfl<|qm rfl rfl rfl<|qm rfl rfl rfl ?_
   refine agW (dM rfl rfl) rfl ?_
   refine agW (fO rfl rfl rfl) rfl ?_
   refine pq ?_
   refine W.bC rfl (fun c19=>?_) (fun c19=>?_)
   ·have hkl:k<rs.length:=by omega
    obtain⟨p,hp',hdr⟩:=has hkl
    rw[hdr,List.any_cons]at hd
    obtain⟨b,off,c,E,fz,hv,hb,hx,hy,hz⟩:=hf.at hp'
    cases hv
    have hq2:c[off+k*1]? =some (I p):=hz 0 (by decide)
    clear hx hz
    refine W.skip<|aA<|W.seq<|W.block<|W.seq<|W.region rfl<|qm rfl rfl rfl<|qm rfl rfl rfl ?_
    refine ag3 rfl ?_
    refine agX rfl ?_
    refine cp (fun h' hE hL=>aii _ h' p 0 20) ?_
    refine KU (xU rfl rfl) (congrArg Value.bool (akO p 0 20)) rfl wn rfl rfl ?_
    refine pq ?_
    refine W.bC rfl (fun c27=>?_) (fun c27=>?_)
    ·refine W.seq<|W.region rfl<|agb rfl rfl rfl<|pq<|W.ret<|cZ<|aY<|aY<|cZ ?_
     refine aY ?_
     refine uZ ?_
     have hc:outs p 0 20:=by assumption
     show I _=I _;congr 1;simp only[K_];rw[if_neg (by omega),if_neg (by omega),hd,decide_eq_true hc];rfl
    ·refine W.skip<|dI<|aA<|W.region rfl<|qm rfl rfl rfl ?_
     refine ag1 rfl ?_
     refine agb rfl rfl rfl<|pq ?_
     have hc:¬outs p 0 20:=by assumption
     rw[decide_eq_false hc,Bool.false_or]at hd
     exact⟨rfl,k+1,⟨by omega,hd⟩,by omega,⟨rfl,rfl,trivial⟩,TW⟩
   ·have:k=rs.length:=by omega
    subst this
    refine W.exit<|bP<|bP<|gG<|aA<|W.seq<|W.region rfl<|agb rfl rfl rfl<|pq ?_
    refine W.ret ?_
    refine uZ ?_
    show I _=I _;congr 1;simp only[K_];rw[if_neg (by omega),if_neg (by omega),hd];simp
theorem atn(main:Side)(h:Hp)(ps:List Pn)(ls:List Lt)(rs:List Int)(vp vl vr:Value)(hp:Sl h Pn.row vp ps)(hl:Sl h Lt.row vl ls)(hf:Sl h fH vr rs):Pu prog main as6 #[vp,vl,vr] h (I (ji ps ls rs)):=by
 obtain⟨a,cap,rfl⟩:=hf.dA
 obtain⟨a2,cap2,rfl⟩:=hp.dA
 obtain⟨a3,cap3,rfl⟩:=hl.dA
 refine dV.aG atG rfl (by show 3≤22;decide) [(0,.slice a2 ps.length cap2),(1,.slice a3 ls.length cap3),(2,.slice a rs.length cap)] ⟨rfl,rfl,rfl,trivial⟩ ?_
 refine W.seq<|W.region rfl<|agb rfl rfl rfl<|pq<|W.seq<|W.seq<|W.region rfl<|qm rfl rfl rfl ?_
 refine cp (fun h' hE hL=>ak9 _ h' ps _ (hp.ext hE)) ?_
 refine agb rfl rfl rfl<|pq<|W.seq<|W.region rfl<|qm rfl rfl rfl ?_
 refine agW (nG rfl rfl rfl) rfl ?_
 refine pq ?_
 refine W.bC rfl (fun c12=>?_) (fun c12=>?_)
 ·refine W.seq<|W.region rfl<|qm rfl rfl rfl<|agb rfl rfl rfl<|pq<|W.ret<|aY ?_
  refine uZ ?_
  rw[ji,if_pos (by assumption)] <;>rfl
 ·refine W.skip<|aA<|W.seq<|W.seq<|W.region rfl<|qm rfl rfl rfl ?_
  refine cp (fun h' hE hL=>atA _ h' ls _ (hl.ext hE)) ?_
  refine agb rfl rfl rfl<|pq<|W.seq<|W.region rfl<|qm rfl rfl rfl ?_
  refine agW (nG rfl rfl rfl) rfl ?_
  refine pq ?_
  refine W.bC rfl (fun c17=>?_) (fun c17=>?_)
  ·refine W.seq<|W.region rfl<|qm rfl rfl rfl<|agb rfl rfl rfl<|pq<|W.ret<|aY ?_
   refine uZ ?_
   rw[ji,if_neg (by assumption),if_pos (by assumption)] <;>rfl
  ·refine W.skip<|aA<|W.seq<|W.region rfl<|qm rfl rfl rfl<|qm rfl rfl rfl ?_
   refine cp (fun h' hE hL=>auh _ h' ps rs _ _ (hp.ext hE) (hf.ext hE) (iP.yB (by simpa using ‹¬nV ps≠0›)).len) ?_
   refine agb rfl rfl rfl<|pq<|W.ret ?_
   refine uZ ?_
   rw[ji,if_neg (by assumption),if_neg (by assumption)] <;>rfl
end Go.aS

/- What is reached in so many steps, as the laws find it. Conditions: none; no program in sight. -/
namespace Go.aS
set_option linter.unusedVariables false
end Go.aS

/- Sets of qualities, as the laws keep them. Conditions: none; over the given program. -/
namespace Go.aS
set_option maxRecDepth 100000
set_option maxHeartbeats 4000000
abbrev V9(β:Nat):Value:=.slice (some ⟨β,0,none⟩) 13 13
abbrev bsO(f:Nat→Bool):Obj:=.cells (bA f) RS (0,0)
end Go.aS

/- Layers: from where the goal is reached in n pans, one pan left out. Conditions: none. -/
namespace Go.aS
def apy(ps:List Pn)(w:Int)(S:Nat→Bool):Nat→Nat→Bool
 | 0,q=>S q
 | n+1,q=>(List.range ps.length).any fun i=>decide ((i:Int)≠w)&&P9 ps q i&&apy ps w S n (gy ps i q)
end Go.aS

/- Where pans lead for ever, as the document has it. Conditions: none; over the given program. -/
namespace Go.aS
set_option maxRecDepth 100000
set_option maxHeartbeats 4000000
end Go.aS

/- Layers, as the document has them. Conditions: none; over the given program. -/
namespace Go.aS
set_option maxRecDepth 100000
set_option maxHeartbeats 4000000
abbrev svB(β:Nat):Sv:=⟨some ⟨β,0,none⟩,13,13⟩
def aqI(ps:List Pn)(w:Int)(S:Nat→Bool)(vs:List Sv)(n:Nat)(A:ah):Prop:=Shut A∧∀k,k<n→∃β,vs[k]? =some (svB β)∧(β,bsO (apy ps w S k))∈A
theorem aqI.next{ps:List Pn}{w:Int}{S:Nat→Bool}{vs:List Sv}{n β:Nat}{A:ah}{s:Sv}(h:aqI ps w S vs n A)(hs:vs[n]? =some (svB β)):aqI ps w S (vs++[s]) (n+1) ((β,bsO (apy ps w S n))::A):=by
 refine⟨.cons rfl h.1,fun k hk=>?_⟩
 have app:∀{k:Nat} {x:Sv},vs[k]? =some x→(vs++[s])[k]? =some x:=fun{k x} hx=>by
  rw[List.getElem?_append_left (List.getElem?_eq_some_iff.1 hx).1];exact hx
 rcases Nat.lt_or_ge k n with h1 | h1
 ·obtain⟨β',hb,hm⟩:=h.2 k h1
  exact⟨β',app hb,.tail _ hm⟩
 ·obtain rfl:k=n:=by omega
  exact⟨β,app hs,.head _⟩
theorem aqI.fin{ps:List Pn}{w:Int}{S:Nat→Bool}{vs:List Sv}{n β:Nat}{A:ah}(h:aqI ps w S vs n A)(hs:vs[n]? =some (svB β)):aqI ps w S vs (n+1) ((β,bsO (apy ps w S n))::A):=by
 refine⟨.cons rfl h.1,fun k hk=>?_⟩
 rcases Nat.lt_or_ge k n with h1 | h1
 ·obtain⟨β',hb,hm⟩:=h.2 k h1
  exact⟨β',hb,.tail _ hm⟩
 ·obtain rfl:k=n:=by omega
  exact⟨β,hs,.head _⟩
end Go.aS

/- The way that the document goes by layers. Conditions: none. -/
namespace Go.aS
end Go.aS

/- The way by layers, as the document has it. Conditions: none; over the given program. -/
namespace Go.aS
set_option maxRecDepth 100000
set_option maxHeartbeats 4000000
end Go.aS

/- SyrupLongest. Conditions: none; over the given program. -/
namespace Go.aS
set_option maxRecDepth 100000
set_option maxHeartbeats 4000000
end Go.aS

/- What goes round for ever comes to a ring. Conditions: none; no program in sight. -/
namespace Go.aS
set_option linter.unusedVariables false
end Go.aS

/- All ways of so many steps; the first of them. Conditions: none; no program in sight. -/
namespace Go.aS
set_option linter.unusedVariables false
def af7(m:Nat):Nat→List (List Nat)
 | 0=>[[]]
 | k+1=>(af7 m k).flatMap fun l=>(List.range m).map fun y=>l++[y]
end Go.aS

/- All lists of so many numbers, as a program makes them; all ascending ones. Conditions: none; no program in sight. -/
namespace Go.aS
set_option linter.unusedVariables false
def af9(g:List Int)(y:Nat):List (List Int):=(List.range y).map fun(y:Nat)=>g++[(y:Int)]
def afb(m:Nat)(H:List (List Int))(x:Nat):List (List Int):=(H.take x).flatMap fun g=>af9 g m
def aff(m:Nat):Nat→List (List Int)
 | 0=>[[]]
 | k+1=>afb m (aff m k) (aff m k).length
theorem afL{m:Nat}:∀{k:Nat},aff m k=(af7 m k).map zs
 | 0=>rfl
 | k+1=>by
  rw[aff,afb,List.take_length,afL,af7,List.flatMap_map,List.map_flatMap]
  refine congrArg (fun f=>List.flatMap f _) (funext fun l=>?_)
  rw[af9,List.map_map]
  exact List.map_congr_left fun y _=>by simp[zs]
end Go.aS

/- All lists of so many numbers. Conditions: none; over the given program. -/
namespace Go.aS
set_option maxRecDepth 100000
set_option maxHeartbeats 4000000
end Go.aS

/- Ways, as the laws make them. Conditions: none; over the given program. -/
namespace Go.aS
set_option maxRecDepth 100000
set_option maxHeartbeats 4000000
theorem UG.filter{α:Type}{row:α→List Value}{k:Nat}[Rw row k]{E:TypeId}{vs:List Sv}{ls:List (List α)}{A:ah}(h:UG E row vs ls A)(P:List α→Bool):∃B,UG E row (((vs.zip ls).filter fun x=>P x.2).map (·.1)) (ls.filter P) B∧Sb B A:=by
 induction h with
 | nil=>exact⟨[],.nil,.refl⟩
 | @cons s l A B vs ls h1 h2 ih=>
  obtain⟨C,h3,h4⟩:=ih
  rw[List.zip_cons_cons,List.filter_cons,List.filter_cons]
  cases hP:P l
  ·exact⟨C,by simpa[hP]using h3,h4.left h1.shut⟩
  ·exact⟨A++C,by simpa[hP]using UG.cons h1 h3,Sb.app .refl h4⟩
end Go.aS

/- Comparing truth values. Conditions: none; over any program. -/
namespace Go.aS
section
variable{x:Cx}{ρ:Env}{S:ah→Prop}{o:Oper}{v:Value}
end
end Go.aS

/- Shut blocks are put by. Conditions: none; over any program. -/
namespace Go.aS
theorem W.cut{x:Cx}{c c2:Code}{Q:Post}{ρ:Env}{ds:List Deferred}{F:ah}(L:Env)(G:ah)(H:W x c (fun e ρ' ds' F'=>e= .normal∧ds'=ds∧Sub L ρ'∧Sb G F') ρ ds F)(K:W x c2 Q L ds G):W x c (thn (fun ρ' ds' F'=>W x c2 Q ρ' ds' F') Q) ρ ds F:=
 W.mono H fun e ρ' ds' F' h=>by
  obtain⟨he,hd,hs,hb⟩:=h
  subst he hd
  exact aA (W.env hs (W.sb hb K))
theorem W.aiB{σ:Type}{x:Cx}{c c2:Code}{Q:Post}{ρ:Env}{ds:List Deferred}{F:ah}(ok:σ→Prop)(L:σ→Env)(G:σ→ah)(H:W x c (fun e ρ' ds' F'=>e= .normal∧ds'=ds∧∃s,ok s∧Sub (L s) ρ'∧Sb (G s) F') ρ ds F)(K:∀s,ok s→W x c2 Q (L s) ds (G s)):W x c (thn (fun ρ' ds' F'=>W x c2 Q ρ' ds' F') Q) ρ ds F:=
 W.mono H fun e ρ' ds' F' h=>by
  obtain⟨he,hd,s,ho,hs,hb⟩:=h
  subst he hd
  exact aA (W.env hs (W.sb hb (K s ho)))
end Go.aS

/- SyrupRing. Conditions: none; over the given program. -/
namespace Go.aS
set_option maxRecDepth 100000
set_option maxHeartbeats 4000000
end Go.aS

/- The shortest ring, as the document has it: the same as the program's. Conditions: none; over the given program. -/
namespace Go.aS
set_option maxRecDepth 100000
set_option maxHeartbeats 4000000
end Go.aS

/- From where syrups go round for ever: the list. Conditions: none; over the given program. -/
namespace Go.aS
set_option maxRecDepth 100000
set_option maxHeartbeats 4000000
end Go.aS

/- The shortest way to treacle; what treacle comes of a syrup. Conditions: none; over the given program. -/
namespace Go.aS
set_option maxRecDepth 100000
set_option maxHeartbeats 4000000
end Go.aS

/- SyrupShortest. Conditions: none; over the given program. -/
namespace Go.aS
set_option maxRecDepth 100000
set_option maxHeartbeats 4000000
end Go.aS

/- The shortest way, as the document has it: the same as the program's. Conditions: none; over the given program. -/
namespace Go.aS
set_option maxRecDepth 100000
set_option maxHeartbeats 4000000
end Go.aS

/- For ever, as the document has it. Conditions: none; over the given program. -/
namespace Go.aS
set_option maxRecDepth 100000
set_option maxHeartbeats 4000000
end Go.aS

/- The longest way and how many ways there are, as the document has them. Conditions: none; over the given program. -/
namespace Go.aS
set_option maxRecDepth 100000
set_option maxHeartbeats 4000000
end Go.aS

/- How many ways there are, as the document has it. Conditions: none; over the given program. -/
namespace Go.aS
set_option maxRecDepth 100000
set_option maxHeartbeats 4000000
end Go.aS

/- Where it may end, as the document has it. Conditions: none; over the given program. -/
namespace Go.aS
set_option maxRecDepth 100000
set_option maxHeartbeats 4000000
end Go.aS

/- Pans that are forced. Conditions: none; over the given program. -/
namespace Go.aS
set_option maxRecDepth 100000
set_option maxHeartbeats 4000000
end Go.aS

/- Layers without one pan: the graph that has this pan shut. Conditions: none. -/
namespace Go.aS
end Go.aS

/- Pans that are forced, as the document has it. Conditions: none; over the given program. -/
namespace Go.aS
set_option maxRecDepth 100000
set_option maxHeartbeats 4000000
end Go.aS

/- Pans that are shut; where one comes without them. Conditions: none; no program in sight. -/
namespace Go.aS
set_option linter.unusedVariables false
end Go.aS

/- All ascending lists of so many numbers, as a program makes them. Conditions: none; no program in sight. -/
namespace Go.aS
set_option linter.unusedVariables false
set_option maxRecDepth 100000
end Go.aS

/- All ascending lists of so many numbers. Conditions: none; over the given program. -/
namespace Go.aS
set_option maxRecDepth 100000
set_option maxHeartbeats 4000000
theorem UG.os{α:Type}{row:α→List Value}{w:Nat}[Rw row w]{E:TypeId}{vs:List Sv}{ls:List (List α)}{A:ah}(h:UG E row vs ls A):∀{k:Nat} {s:Sv} {l:List α},vs[k]? =some s→ls[k]? =some l→∃B,Os E row s.val l B∧∀p∈B,p∈A:=by
 induction h with
 | nil=>intro k s l hs;simp at hs
 | cons h1 _ ih=>
  intro k s l hs hl
  rcases k with _ | k
  ·simp at hs hl;subst hs hl
   exact⟨_,h1,fun p hp=>List.mem_append_left _ hp⟩
  ·simp at hs hl
   obtain⟨B,h2,h3⟩:=ih hs hl
   exact⟨B,h2,fun p hp=>List.mem_append_right _ (h3 p hp)⟩
end Go.aS

/- Pans shut, as the document has it. Conditions: none; over the given program. -/
namespace Go.aS
set_option maxRecDepth 100000
set_option maxHeartbeats 4000000
end Go.aS

/- SyrupForced. Conditions: none; over the given program. -/
namespace Go.aS
set_option maxRecDepth 100000
set_option maxHeartbeats 4000000
end Go.aS

/- SyrupClosed. Conditions: none; over the given program. -/
namespace Go.aS
set_option maxRecDepth 100000
set_option maxHeartbeats 4000000
end Go.aS

/- All ascending lists of so many numbers, as the document makes them. Conditions: none; no program in sight. -/
namespace Go.aS
set_option linter.unusedVariables false
set_option maxRecDepth 100000
end Go.aS

/- Which pans to close, as the document has it. Conditions: none; over the given program. -/
namespace Go.aS
set_option maxRecDepth 100000
set_option maxHeartbeats 4000000
theorem UG.pick{α:Type}{row:α→List Value}{w:Nat}[Rw row w]{E:TypeId}{vs:List Sv}{ls:List (List α)}{A:ah}(h:UG E row vs ls A):∀{k:Nat} {s:Sv} {l:List α},vs[k]? =some s→ls[k]? =some l→∃B,Os E row s.val l B∧Sb B A:=by
 induction h with
 | nil=>intro k s l hs;simp at hs
 | cons h1 h2 ih=>
  intro k s l hs hl
  rcases k with _ | k
  ·simp at hs hl;subst hs hl
   exact⟨_,h1,.right .refl h2.shut⟩
  ·simp at hs hl
   obtain⟨B,h3,h4⟩:=ih hs hl
   exact⟨B,h3,.left h4 h1.shut⟩
end Go.aS

/- Shares as the document makes them. Conditions: none; no program in sight. -/
namespace Go.aS
set_option linter.unusedVariables false
theorem auz{ps:List Pn}{q:Nat}(h4:ps.length≤4):bQ ps 0 q=(List.range ps.length).filter fun i=>P9 ps q i:=by
 obtain⟨d,hd⟩:∃d,4=ps.length+d:=⟨4-ps.length,by omega⟩
 rw[bQ,hd,List.range_add,List.filter_append]
 have e1:((List.range d).map (ps.length+ ·)).filter (fun i=>P9 ps q i&& !(0:Nat).testBit i)=[]:=by
  rw[List.filter_eq_nil_iff]
  intro i hi h
  obtain⟨x,-,rfl⟩:=List.mem_map.1 hi
  simp only[Bool.and_eq_true]at h
  have:=h.1
  unfold P9 at this
  rw[List.getElem?_eq_none (by omega)]at this;cases this
 rw[e1,List.append_nil]
 exact List.filter_congr fun i _=>by simp
def shQ(ps:List Pn)(l:Lt)(ls:List Lt)(rs pre:List Int)(i:Nat):List (List Int):=Dv ps ls rs (pre++[-1])++((List.range i).filter fun i=>P9 ps l.qu.toNat i).flatMap fun p=>if fits l rs p then Dv ps ls (less l rs p) (pre++[(p:Int)])else[]
theorem avF{ps:List Pn}{l:Lt}{ls:List Lt}{rs pre:List Int}:shQ ps l ls rs pre 0=Dv ps ls rs (pre++[-1]):=by simp[shQ]
theorem avp{ps:List Pn}{l:Lt}{ls:List Lt}{rs pre:List Int}(h4:ps.length≤4):shQ ps l ls rs pre ps.length=Dv ps (l::ls) rs pre:=by rw[shQ,Dv,auz h4]
theorem au0{ps:List Pn}{l:Lt}{ls:List Lt}{rs pre:List Int}{i:Nat}(h1:P9 ps l.qu.toNat i=true)(h2:fits l rs i=true):shQ ps l ls rs pre (i+1)=shQ ps l ls rs pre i++Dv ps ls (less l rs i) (pre++[(i:Int)]):=by
 rw[shQ,List.range_succ,List.filter_append,List.flatMap_append,List.filter_cons,if_pos h1,←List.append_assoc]
 simp[shQ,h2]
theorem aui{ps:List Pn}{l:Lt}{ls:List Lt}{rs pre:List Int}{i:Nat}(h:¬(P9 ps l.qu.toNat i=true∧fits l rs i=true)):shQ ps l ls rs pre (i+1)=shQ ps l ls rs pre i:=by
 rw[shQ,List.range_succ,List.filter_append,List.flatMap_append,List.filter_cons]
 by_cases h1:P9 ps l.qu.toNat i=true
 ·rw[if_pos h1]
  have h2:fits l rs i=false:=by
   rw[←Bool.not_eq_true];exact fun h'=>h ⟨h1,h'⟩
  simp[shQ,h2]
 ·rw[if_neg h1];simp[shQ]
theorem au1{ps:List Pn}{l:Lt}{ls:List Lt}{rs pre:List Int}(hl:ls.length≤3):∀{i:Nat},i≤4→(shQ ps l ls rs pre i).length≤125*(i+1)
 | 0,_=>by
  rw[avF]
  exact Nat.le_trans Oy (Nat.le_trans (Nat.pow_le_pow_right (by omega) hl) (by decide))
 | i+1,h=>by
  have ih:=au1 (ps:=ps) (l:=l) (rs:=rs) (pre:=pre) hl (i:=i) (by omega)
  have hg:(Dv ps ls (less l rs i) (pre++[(i:Int)])).length≤125:=Nat.le_trans Oy (Nat.le_trans (Nat.pow_le_pow_right (by omega) hl) (by decide))
  by_cases h1:P9 ps l.qu.toNat i=true∧fits l rs i=true
  ·rw[au0 h1.1 h1.2,List.length_append];omega
  ·rw[aui h1];omega

def au4{X:Type}(f:X→Int)(s:Int×List X)(x:X):Int×List X:=
 let m:=if s.1<f x then f x else s.1
 let l:=if s.1<f x then[]else s.2
 (m,if f x=m then l++[x]else l)
def atM{X:Type}(f:X→Int)(xs:List X):Int×List X:=xs.foldl (au4 f) (-1,[])
theorem auj{X:Type}{f:X→Int}{xs:List X}{k:Nat}{x:X}(h:xs[k]? =some x):atM f (xs.take (k+1))=au4 f (atM f (xs.take k)) x:=by
 rw[atM,List.take_add_one,h,List.foldl_append];rfl
theorem avq{X:Type}{f:X→Int}{xs:List X}{r:Int×List X}{x:X}(H:lY f xs r)(hx:xs=[]→r.1<f x):lY f (xs++[x]) (au4 f r x):=by
 obtain⟨h1,h2,h3⟩:=H
 obtain⟨m,l⟩:=r
 simp only at h1 h2 h3 hx
 simp only[au4]
 by_cases hm:m<f x
 ·simp only[if_pos hm,if_true,List.nil_append]
  refine⟨fun y hy=>?_,?_,fun _=>by simp⟩
  ·rcases List.mem_append.1 hy with hy | hy
   ·have:=h1 y hy;show f y≤f x;omega
   ·rw[List.mem_singleton.1 hy];exact Int.le_refl _
  ·rw[List.filter_append]
   have:xs.filter (fun y=>decide (f y=f x))=[]:=by
    rw[List.filter_eq_nil_iff]
    intro y hy
    have:=h1 y hy
    simp;omega
   simp[this]
 ·simp only[if_neg hm]
  have hne:xs≠[]:=fun h=>hm (hx h)
  refine⟨fun y hy=>?_,?_,fun _=>?_⟩
  ·rcases List.mem_append.1 hy with hy | hy
   ·exact h1 y hy
   ·rw[List.mem_singleton.1 hy];show f x≤m;omega
  ·show(if f x=m then l++[x]else l)=_
   rw[List.filter_append,←h2]
   by_cases h:f x=m <;>simp[h]
  ·show(if f x=m then l++[x]else l)≠[]
   have:=h3 hne
   split
   ·simp
   ·exact this
theorem auP{X:Type}{f:X→Int}{xs:List X}(h0:∀x∈xs,0≤f x):∀{k:Nat},k≤xs.length→lY f (xs.take k) (atM f (xs.take k))∧(k=0→atM f (xs.take k)=(-1,[]))
 | 0,_=>⟨⟨fun x h=>by simp at h,by simp[atM],fun h=>absurd (by simp) h⟩,fun _=>by simp[atM]⟩
 | k+1,h=>by
  obtain⟨x,hx⟩:∃x,xs[k]? =some x:=⟨xs[k],List.getElem?_eq_getElem (by omega)⟩
  obtain⟨i1,i2⟩:=auP h0 (k:=k) (by omega)
  refine⟨?_,fun h=>by cases h⟩
  rw[auj hx,List.take_add_one,hx]
  refine avq i1 fun he=>?_
  have hk:k=0:=by
   rcases Nat.eq_zero_or_pos k with h' | h'
   ·exact h'
   ·have:=congrArg List.length he
    rw[List.length_take,List.length_nil]at this;omega
  rw[i2 hk]
  have:=h0 x (List.mem_of_getElem? hx)
  show(-1:Int)<f x;omega
theorem auY{ps:List Pn}{ls:List Lt}{rs:List Int}(hlo:Au ls):atM (Ba ls) (yS ps ls rs)=oZ ps ls rs:=by
 have h1:=(auP (f:=Ba ls) (xs:=yS ps ls rs) (fun x _=>(ab3 hlo.lot).1) (Nat.le_refl _)).1
 rw[List.take_length]at h1
 exact h1.one (EU qX) Ou
theorem ave{ls:List Lt}{l:Lt}{s:List Int}{k:Nat}{a:Int}(hl:ls[k]? =some l)(hs:s[k]? =some a):Ba (ls.take (k+1)) s=Ba (ls.take k) s+if 0≤a then l.po else 0:=by
 induction k generalizing ls s with
 | zero=>
  rcases ls with _ | ⟨x,ls⟩ <;>simp at hl
  rcases s with _ | ⟨y,s⟩ <;>simp at hs
  subst hl hs
  simp[Ba]
 | succ k ih=>
  rcases ls with _ | ⟨x,ls⟩ <;>simp at hl
  rcases s with _ | ⟨y,s⟩ <;>simp at hs
  have:=ih hl hs
  simp only[List.take_succ_cons,Ba]
  omega
end Go.aS

/- SyrupMore. Conditions: none; over the given program. -/
namespace Go.aS
set_option maxRecDepth 100000
set_option maxHeartbeats 4000000
end Go.aS

/- Ways made of numbers. Conditions: none; over the given program. -/
namespace Go.aS
set_option maxRecDepth 100000
set_option maxHeartbeats 4000000
end Go.aS

/- A way gone along: where it leads, what comes out, what stops it. Conditions: none; no program in sight. -/
namespace Go.aS
set_option linter.unusedVariables false
end Go.aS

/- SyrupBoiled. Conditions: none; over the given program. -/
namespace Go.aS
set_option maxRecDepth 100000
set_option maxHeartbeats 4000000
theorem Os.room{α:Type}{row:α→List Value}{w:Nat}[Rw row w]{E:TypeId}{a:Option Addr}{n cap:Nat}{l:List α}{A:ah}(H:Os E row (.slice a n cap) l A):(a.map (·.spot)=some none∨a=none)∧l.length≤cap:=by
 rcases H with⟨rfl,e,-⟩ | ⟨β,c,cap',J,e,-,-,h,-,-⟩
 ·cases e;exact⟨.inr rfl,Nat.le_refl _⟩
 ·cases e;exact⟨.inl rfl,h⟩
end Go.aS

/- All upside down. Conditions: none; no program in sight. -/
namespace Go.aS
set_option linter.unusedVariables false
end Go.aS

/- SyrupMirror. Conditions: none; over the given program. -/
namespace Go.aS
set_option maxRecDepth 100000
set_option maxHeartbeats 4000000
end Go.aS

/- What all the best shares say of a lot. Conditions: none; over the given program. -/
namespace Go.aS
set_option maxRecDepth 100000
set_option maxHeartbeats 4000000
def amJ(l:List (List Int))(k:Nat):Nat:=(l.filter fun s=>decide (0≤(kC s).getD k 0)).length
def al7(c n:Nat):Int:=if 0<c∧c<n then 3 else if c=0 then 2 else 1
def amz(ps:List Pn)(ls:List Lt)(rs:List Int)(k:Int):Int×Int:=
 if ji ps ls rs≠0 then(0,ji ps ls rs)else if outs k 0 ((ls.length:Int)-1)then(0,3)else(al7 (amJ (oZ ps ls rs).2 k.toNat) (oZ ps ls rs).2.length,0)
theorem amL{l:List (List Int)}{k i:Nat}{s:List Int}(h:l[i]? =some s):amJ (l.take (i+1)) k=amJ (l.take i) k+if 0≤(kC s).getD k 0 then 1 else 0:=by
 rw[amJ,List.take_add_one,h,List.filter_append,List.length_append]
 congr 1
 by_cases hs:0≤(kC s).getD k 0
 ·rw[if_pos hs]
  show([s].filter fun s=>decide (0≤(kC s).getD k 0)).length=1
  rw[List.filter_cons,if_pos (decide_eq_true hs)];rfl
 ·rw[if_neg hs]
  show([s].filter fun s=>decide (0≤(kC s).getD k 0)).length=0
  rw[List.filter_cons,if_neg (by simpa using hs)];rfl
theorem am2{l:List (List Int)}{k:Nat}:amJ l k≤l.length:=List.length_filter_le ..
theorem ank{ps:List Pn}{ls:List Lt}{rs:List Int}(h:ls.length≤4):(oZ ps ls rs).2.length≤625:=by
 have:=(MC (f:=Ba ls) (xs:=yS ps ls rs) (k:=(yS ps ls rs).length) (Nat.le_refl _)).1
 rw[List.take_length]at this
 exact Nat.le_trans this (aax h)
theorem amZ(main:Side)(h:Hp)(ps:List Pn)(ls:List Lt)(rs:List Int)(k:Int)(vp vl vr:Value)(hp:Sl h Pn.row vp ps)(hl:Sl h Lt.row vl ls)(hr:Sl h fH vr rs):Pu prog main amb #[vp,vl,vr,I k] h (.tuple #[I (amz ps ls rs k).1,I (amz ps ls rs k).2]):=by
 obtain⟨a,cap,rfl⟩:=hp.dA
 obtain⟨a2,cap2,rfl⟩:=hl.dA
 obtain⟨a3,cap3,rfl⟩:=hr.dA
 refine dV.aG amr rfl (by show 4≤68;decide) [(0,.slice a ps.length cap),(1,.slice a2 ls.length cap2),(2,.slice a3 rs.length cap3),(3,I k)] ⟨rfl,rfl,rfl,rfl,trivial⟩ ?_
 refine W.seq<|W.region rfl<|agb rfl rfl rfl<|agb rfl rfl rfl<|pq<|W.seq<|W.region rfl<|qm rfl rfl rfl<|qm rfl rfl rfl ?_
 refine qm rfl rfl rfl ?_
 refine c0 (fun h' hE hL=>VD _ h' ps ls rs _ _ _ (hp.ext hE) (hl.ext hE) (hr.ext hE)) (fun v A' hv=>?_)
 have hv2:∃pv,v= .tuple #[pv,I (ji ps ls rs)]∧(ji ps ls rs≠0→Shut A')∧(ji ps ls rs=0→∃bl R vm,pv=bI bl∧Os dL fH vm rs R∧Sb ((bl,.cells #[.slice a ps.length cap,U8 0,.slice a2 ls.length cap2,vm] xE (0,0))::R) A'):=by
  rcases hv with⟨h1,rfl,h2⟩ | ⟨h1,bl,R,vm,rfl,hR,hsb⟩
  ·exact⟨_,rfl,fun _=>h2,fun h=>absurd h h1⟩
  ·exact⟨_,by rw[h1],fun h=>absurd h1 h,fun _=>⟨bl,R,vm,rfl,hR,hsb⟩⟩
 obtain⟨pv,rfl,hv3,hv4⟩:=hv2
 clear hv
 refine qm rfl rfl rfl<|oq (bD rfl rfl rfl) rfl wn rfl rfl<|oq (bD rfl rfl rfl) rfl wn rfl rfl<|agb rfl rfl rfl<|agb rfl rfl rfl<|pq<|W.seq<|W.seq<|W.region rfl ?_
 refine qm rfl rfl rfl ?_
 refine agW (nG rfl rfl rfl) rfl ?_
 refine pq ?_
 refine W.bC rfl (fun c25=>?_) (fun c25=>?_)
 ·refine W.seq<|W.region rfl<|qm rfl rfl rfl<|agb rfl rfl rfl<|agb rfl rfl rfl<|pq<|W.ret<|aY ?_
  refine uZ ?_ (hs:=by simpa using hv3 c25)
  rw[amz,if_pos c25];rfl
 ·have h0:ji ps ls rs=0:=by simpa using c25
  obtain⟨hok,hlo,hro⟩:=aaA h0
  obtain⟨bl,R,vm,rfl,hR,hsb⟩:=hv4 h0
  obtain⟨o,hrm,Oh⟩:=aau hR
  rw[hro.len]at hrm
  have hl4:=hlo.len
  refine W.sb (F':=(bl,.cells #[.slice a ps.length cap,U8 0,.slice a2 ls.length cap2,vm] xE (0,0))::Iu o rs) (by simpa using(Sb.cons Oh).trans hsb) ?_
  have hrS:Shut (Iu o rs):=by unfold Iu;split;exact .nil;exact .cons rfl .nil
  refine W.skip<|aA<|W.seq<|W.seq<|W.region rfl<|qm rfl rfl rfl<|qm rfl rfl rfl ?_
  refine agW (dM rfl rfl) rfl ?_
  refine ag5 rfl ?_
  refine cp (fun h' hE hL=>jo _ h' _ _ _) ?_
  refine pq ?_
  refine W.bC rfl (fun c31=>?_) (fun c31=>?_)
  ·refine W.seq<|W.region rfl<|agb rfl rfl rfl<|agb rfl rfl rfl<|pq<|W.ret<|aY ?_
   refine uZ ?_ (hs:=.cons rfl hrS)
   rw[amz,if_neg (by simpa using h0),if_pos (by assumption)];rfl
  ·have hk0:0≤k∧k<ls.length:=by
    have:¬outs k 0 ((ls.length:Int)-1):=by assumption
    unfold outs at this;omega
   obtain⟨k,rfl⟩:∃n:Nat,k=n:=⟨k.toNat,by omega⟩
   have hk4:k<4:=by omega
   refine W.skip<|aA<|W.seq<|W.region rfl<|qm rfl rfl rfl ?_
   refine cg (.tail .all) (fun h' hE hL=>aaz _ h' ps ls rs _ _ vm o bl _ _ hok hlo hro hrm (hp.ext hE) (hl.ext hE) (hL bl _ (.head _))) (fun v A1 hv=>?_)
   obtain⟨u,S,rfl,hO,afy⟩:=hv
   rw[YG]at hO⊢
   simp only at hO
   have aot:=ank (ps:=ps) (rs:=rs) hl4
   have hbm:∀s∈(oZ ps ls rs).2,s.length=ls.length:=fun s hs=>Az (SN hs)
   have hbne:=VN (ps:=ps) (ls:=ls) (rs:=rs)
   have e:amz ps ls rs k=(al7 (amJ (oZ ps ls rs).2 k) (oZ ps ls rs).2.length,0):=by
    rw[amz,if_neg (by simpa using h0),if_neg (by unfold outs;omega),Int.toNat_natCast]
   rw[e]
   generalize oZ ps ls rs=B at*
   obtain⟨w,L⟩:=B
   dsimp only at hO aot hbm hbne
   rcases hO with⟨h9,-⟩ | ⟨βu,c,cp,Ju,rfl,rfl,hc1,hc2,hpt,hJu⟩
   ·exact absurd (List.map_eq_nil_iff.1 h9) hbne
   rw[List.length_map]at hc2⊢
   refine Ops.sb (F':=(βu,.cells c dw (0,0))::[]) (.skip rfl (Sb.trans (.cons (.nil (hJu.app hrS))) afy)) ?_
   refine Ops.new (fun Yf=>?_)
   refine Ops.jP (vs:= #[I w,.slice (some ⟨βu,0,none⟩) L.length cp]) ?_
   refine pq<|W.seq<|W.region rfl<|agb rfl rfl rfl<|pq<|W.seq<|W.seq<|W.region rfl ?_
   refine agY rfl ?_
   refine agX rfl ?_
   refine agW (dM rfl rfl) rfl ?_
   refine qm rfl rfl rfl<|pq<|W.block ?_
   refine W.loop (σ:=Nat) (fun i=>i≤L.length) (fun i=>[(37,I i),(36,I L.length),(35,.slice (some ⟨βu,0,none⟩) L.length cp),(13,I (amJ (L.take i) k)),(12,.pointer (some ⟨Yf,0,none⟩)),(3,I k)])
    (fun _=>[(Yf,.cells #[I w,.slice (some ⟨βu,0,none⟩) L.length cp] iJ (0,0)),(βu,.cells c dw (0,0))]) (fun i=>L.length-i) 0 (Nat.zero_le _) ⟨rfl,rfl,rfl,rfl,rfl,rfl,trivial⟩ .refl ?_
   rintro i hi
   refine W.seq<|W.region rfl ?_
   refine agW (fO rfl rfl rfl) rfl ?_
   refine pq<|W.seq ?_
   refine W.bC rfl (fun c38=>?_) (fun c38=>?_)
   ·have hil:i<L.length:=by omega
    obtain⟨s,hs,-⟩:=has hil
    have hs4:(kC s).length=4:=Qw (by rw[hbm s (List.mem_of_getElem? hs)];omega)
    have hrow:=hpt.abd (i:=i) (p:=kC s) (by rw[List.getElem?_map,hs];rfl)
    have hex:c.extract (0+i*4) (0+i*4+4)=uV (kC s):=by rw[←Qz hs4];exact hrow.1
    have apQ:0+i*4+4≤c.size:=hrow.2
    have hcl:amJ (L.take i) k≤625:=Nat.le_trans am2 (by rw[List.length_take];omega)
    have hon:ones (uV (kC s)).toList=true:=Qv
    have hsz:(uV (kC s)).size=4:=by rw[qj,hs4]
    have hat:(uV (kC s))[0+k*1]? =some (I ((kC s).getD k 0)):=by
     refine ab4 ?_
     rw[List.getD_eq_getElem?_getD,List.getElem?_eq_getElem (by omega)];rfl
    refine W.skip<|aA<|W.seq<|W.block<|W.seq<|W.region rfl ?_
    refine ag3 rfl ?_
    refine ag2 rfl ?_
    refine Ops.new (fun apR=>?_)
    refine Ops.jP (vs:=uV (kC s)) ?_
    refine pq<|W.seq<|W.region rfl<|qm rfl rfl rfl ?_
    first | refine agW (UN rfl rfl rfl) rfl ?_ | refine agW (Qg rfl rfl rfl) rfl ?_
    refine agX rfl ?_
    refine agW (IJ rfl rfl rfl) rfl ?_
    refine pq ?_
    refine W.bC rfl (fun c44=>?_) (fun c44=>?_)
    ·refine W.region rfl<|qm rfl rfl rfl ?_
     refine ag1 rfl ?_
     refine agb rfl rfl rfl<|Ops.nil<|dI<|aA<|W.region rfl ?_
     refine ag1 rfl ?_
     refine qm rfl rfl rfl<|pq ?_
     refine⟨rfl,i+1,hil,by omega,⟨rfl,rfl,rfl,lk rfl (show I _=I _ by rw[amL hs,if_pos (by assumption)];rfl),rfl,rfl,trivial⟩,.skip rfl .refl⟩
    ·refine W.skip<|dI<|aA<|W.region rfl ?_
     refine ag1 rfl ?_
     refine qm rfl rfl rfl<|pq ?_
     refine⟨rfl,i+1,hil,by omega,⟨rfl,rfl,rfl,lk rfl (show I _=I _ by rw[amL hs,if_neg (by assumption),Nat.add_zero]),rfl,rfl,trivial⟩,.skip rfl .refl⟩
   ·obtain rfl:i=L.length:=by omega
    rw[List.take_length]
    have hcL:=am2 (l:=L) (k:=k)
    refine W.exit<|bP<|bP<|gG<|aA<|W.seq<|W.region rfl<|agb rfl rfl rfl<|pq ?_
    refine W.seq<|W.block<|W.seq<|W.block<|W.seq<|W.block<|W.seq<|W.block<|W.seq<|W.seq ?_
    refine W.seq<|W.region rfl<|qm rfl rfl rfl ?_
    refine agW (rC rfl rfl rfl) rfl ?_
    refine qm rfl rfl rfl ?_
    refine Ops.ask (fun aou=>?_) (fun aou=>?_)
    ·refine oq (aN rfl rfl) rfl (ak rfl rfl rfl) rfl rfl ?_
     refine oq (ay rfl rfl) rfl (ak rfl rfl rfl) rfl rfl ?_
     refine oq (iQ rfl rfl) rfl (ak rfl rfl rfl) rfl rfl ?_
     refine oq (dM rfl rfl) rfl (ak rfl rfl rfl) rfl rfl ?_
     refine oq (fO rfl rfl rfl) rfl (ak rfl rfl rfl) rfl rfl ?_
     refine agW (dG rfl rfl rfl) rfl ?_
     refine agb rfl rfl rfl<|pq ?_
     refine W.bC rfl (fun c48=>?_) (fun c48=>?_)
     ·refine W.exit<|bP<|bP<|gG<|aA<|W.region rfl<|qm rfl rfl rfl ?_
      refine ag1 rfl ?_
      refine agb rfl rfl rfl<|Ops.nil<|dI<|aA<|W.region rfl<|qm rfl rfl rfl ?_
      refine ag1 rfl ?_
      refine agb rfl rfl rfl<|Ops.nil<|dI<|aA<|W.seq<|W.region rfl<|qm rfl rfl rfl ?_
      refine ag1 rfl ?_
      refine agb rfl rfl rfl<|pq<|W.exit<|gG<|aA<|W.seq<|W.region rfl<|qm rfl rfl rfl<|agb rfl rfl rfl ?_
      refine agb rfl rfl rfl<|pq<|W.ret ?_
      refine uZ ?_ (hs:=.cons rfl (.cons rfl .nil))
      rw[al7]
      dsimp only
      first
      | (rw[if_pos (by omega)];rfl)
      | (rw[if_neg (by omega),if_pos (by omega)];rfl)
      | (rw[if_neg (by omega),if_neg (by omega)];rfl)
     ·refine W.skip<|aA<|W.seq<|W.region rfl<|qm rfl rfl rfl ?_
      refine agW (nD rfl rfl rfl) rfl ?_
      refine agb rfl rfl rfl<|pq ?_
      refine W.bC rfl (fun c58=>?_) (fun c58=>?_)
      ·refine W.exit<|bP<|Tt<|bP<|gG<|aA<|W.region rfl<|qm rfl rfl rfl ?_
       refine ag1 rfl ?_
       refine agb rfl rfl rfl<|Ops.nil<|dI<|aA<|W.seq<|W.region rfl<|qm rfl rfl rfl ?_
       refine ag1 rfl ?_
       refine agb rfl rfl rfl<|pq<|W.exit<|gG<|aA<|W.seq<|W.region rfl<|qm rfl rfl rfl<|agb rfl rfl rfl ?_
       refine agb rfl rfl rfl<|pq<|W.ret ?_
       refine uZ ?_ (hs:=.cons rfl (.cons rfl .nil))
       rw[al7]
       dsimp only
       first
       | (rw[if_pos (by omega)];rfl)
       | (rw[if_neg (by omega),if_pos (by omega)];rfl)
       | (rw[if_neg (by omega),if_neg (by omega)];rfl)
      ·refine W.skip<|aA<|W.exit<|Tt<|bP<|Tt<|bP<|gG<|aA<|W.seq ?_
       refine W.region rfl<|qm rfl rfl rfl ?_
       refine ag1 rfl ?_
       refine agb rfl rfl rfl<|pq<|W.exit<|gG<|aA<|W.seq<|W.region rfl<|qm rfl rfl rfl<|agb rfl rfl rfl ?_
       refine agb rfl rfl rfl<|pq<|W.ret ?_
       refine uZ ?_ (hs:=.cons rfl (.cons rfl .nil))
       rw[al7]
       dsimp only
       first
       | (rw[if_pos (by omega)];rfl)
       | (rw[if_neg (by omega),if_pos (by omega)];rfl)
       | (rw[if_neg (by omega),if_neg (by omega)];rfl)
    ·refine Ops.no ?_
     refine Ops.no ?_
     refine Ops.no ?_
     refine Ops.no ?_
     refine Ops.no ?_
     refine agW (iH rfl rfl rfl) rfl ?_
     refine agb rfl rfl rfl<|pq ?_
     refine W.bZ ?_
     refine W.skip<|aA<|W.seq<|W.region rfl<|qm rfl rfl rfl ?_
     refine agW (nD rfl rfl rfl) rfl ?_
     refine agb rfl rfl rfl<|pq ?_
     refine W.bC rfl (fun c58=>?_) (fun c58=>?_)
     ·refine W.exit<|bP<|Tt<|bP<|gG<|aA<|W.region rfl<|qm rfl rfl rfl ?_
      refine ag1 rfl ?_
      refine agb rfl rfl rfl<|Ops.nil<|dI<|aA<|W.seq<|W.region rfl<|qm rfl rfl rfl ?_
      refine ag1 rfl ?_
      refine agb rfl rfl rfl<|pq<|W.exit<|gG<|aA<|W.seq<|W.region rfl<|qm rfl rfl rfl<|agb rfl rfl rfl ?_
      refine agb rfl rfl rfl<|pq<|W.ret ?_
      refine uZ ?_ (hs:=.cons rfl (.cons rfl .nil))
      rw[al7]
      dsimp only
      first
      | (rw[if_pos (by omega)];rfl)
      | (rw[if_neg (by omega),if_pos (by omega)];rfl)
      | (rw[if_neg (by omega),if_neg (by omega)];rfl)
     ·refine W.skip<|aA<|W.exit<|Tt<|bP<|Tt<|bP<|gG<|aA<|W.seq ?_
      refine W.region rfl<|qm rfl rfl rfl ?_
      refine ag1 rfl ?_
      refine agb rfl rfl rfl<|pq<|W.exit<|gG<|aA<|W.seq<|W.region rfl<|qm rfl rfl rfl<|agb rfl rfl rfl ?_
      refine agb rfl rfl rfl<|pq<|W.ret ?_
      refine uZ ?_ (hs:=.cons rfl (.cons rfl .nil))
      rw[al7]
      dsimp only
      first
      | (rw[if_pos (by omega)];rfl)
      | (rw[if_neg (by omega),if_pos (by omega)];rfl)
      | (rw[if_neg (by omega),if_neg (by omega)];rfl)
end Go.aS

/- All lists of pans, and the shares among them. Conditions: none; no program in sight. -/
namespace Go.aS
set_option linter.unusedVariables false
theorem amM{m:Nat}:∀{k:Nat},af7 m (k+1)=(List.range m).flatMap fun y=>(af7 m k).map (y:: ·)
 | 0=>by
  show([[]]:List (List Nat)).flatMap _=_
  simp only[af7,List.flatMap_cons,List.flatMap_nil,List.append_nil,List.nil_append,List.map_cons,List.map_nil]
  rw[←List.map_eq_flatMap]
 | k+1=>by
  show(af7 m (k+1)).flatMap (fun l=>(List.range m).map fun y=>l++[y])=(List.range m).flatMap fun y=>((af7 m k).flatMap fun l=>(List.range m).map fun y=>l++[y]).map (y:: ·)
  rw[amM,List.flatMap_assoc]
  refine congrArg (fun f=>List.flatMap f _) (funext fun y=>?_)
  rw[List.flatMap_map,List.map_flatMap]
  refine congrArg (fun f=>List.flatMap f _) (funext fun l=>?_)
  rw[List.map_map];rfl
def al9(m k:Nat):List (List Int):=(aff m k).map fun g=>g.map (· - 1)
theorem ana{m:Nat}:al9 m 0=[[]]:=rfl
theorem amN{m k:Nat}:al9 (m+1) (k+1)=(al9 (m+1) k).map ((-1:Int):: ·)++(List.range m).flatMap fun(p:Nat)=>(al9 (m+1) k).map ((p:Int):: ·):=by
 rw[al9,afL,amM,List.range_succ_eq_map,List.flatMap_cons,List.map_append,List.map_append,List.flatMap_map,List.map_flatMap,List.map_flatMap]
 congr 1
 ·rw[al9,afL,List.map_map,List.map_map,List.map_map,List.map_map]
  exact List.map_congr_left fun v _=>by simp[zs]
 ·refine congrArg (fun f=>List.flatMap f _) (funext fun p=>?_)
  rw[al9,afL,List.map_map,List.map_map,List.map_map,List.map_map]
  refine List.map_congr_left fun v _=>?_
  simp only[Function.comp,zs,List.map_cons,List.cons.injEq,and_true]
  omega
def alZ(ps:List Pn):List Lt→List Int→List Int→Bool
 | l::ls,rs,a::x=>if a<0 then alZ ps ls rs x else(fits l rs a.toNat&&P9 ps l.qu a.toNat)&&alZ ps ls (less l rs a.toNat) x
 | _,_,_=>true
theorem anb{ps:List Pn}{q:Int}(h4:ps.length≤4)(hq:0≤q):bQ ps 0 q.toNat=(List.range ps.length).filter fun i=>P9 ps q i:=by
 have e:List.range 4=List.range ps.length++(List.range (4-ps.length)).map (ps.length+ ·):=by
  rw[←List.range_add];congr 1;omega
 have hn:((q.toNat:Nat):Int)=q:=Int.toNat_of_nonneg hq
 rw[bQ,e,List.filter_append,hn]
 have h1:((List.range (4-ps.length)).map (ps.length+ ·)).filter (fun i=>P9 ps q i&& !(0:Nat).testBit i)=[]:=by
  refine List.filter_eq_nil_iff.2 fun i hi=>?_
  obtain⟨j,-,rfl⟩:=List.mem_map.1 hi
  unfold P9
  rw[List.getElem?_eq_none (by omega)];simp
 rw[h1,List.append_nil]
 exact List.filter_congr fun i _=>by simp
theorem amQ{ps:List Pn}(h4:ps.length≤4):∀{ls:List Lt} {rs pre:List Int},(∀l∈ls,0≤l.qu)→Dv ps ls rs pre=((al9 (ps.length+1) ls.length).filter (alZ ps ls rs)).map (pre++ ·)
 | [],rs,pre,_=>by
  rw[Dv,List.length_nil,ana];simp[alZ]
 | l::ls,rs,pre,hq=>by
  have hq':∀l∈ls,0≤l.qu:=fun x hx=>hq x (List.mem_cons_of_mem _ hx)
  rw[Dv,List.length_cons,amN,List.filter_append,List.map_append,List.filter_map,List.map_map,amQ h4 hq',anb h4 (hq l (List.mem_cons_self ..))]
  congr 1
  ·rw[show(alZ ps (l::ls) rs∘((-1:Int):: ·))=alZ ps ls rs from funext fun x=>by simp[alZ]]
   exact List.map_congr_left fun x _=>by simp
  ·rw[List.filter_flatMap,List.map_flatMap]
   generalize List.range ps.length=R
   induction R with
   | nil=>rfl
   | cons p R ih=>
    rw[List.flatMap_cons,←ih,List.filter_cons]
    have e:((al9 (ps.length+1) ls.length).map ((p:Int):: ·)).filter (alZ ps (l::ls) rs)=if fits l rs p&&P9 ps l.qu p then((al9 (ps.length+1) ls.length).filter (alZ ps ls (less l rs p))).map ((p:Int):: ·)else[]:=by
     rw[List.filter_map]
     have e2:(alZ ps (l::ls) rs∘((p:Int):: ·))=fun x=>(fits l rs p&&P9 ps l.qu p)&&alZ ps ls (less l rs p) x:=funext fun x=>by
      show alZ ps (l::ls) rs ((p:Int)::x)=_
      rw[alZ,if_neg (by omega),Int.toNat_natCast]
     rw[e2]
     cases hft:fits l rs p&&P9 ps l.qu p
     ·simp
     ·simp
    rw[e]
    cases ht:P9 ps l.qu p
    ·simp[ht]
    ·cases hf:fits l rs p
     ·simp[ht,hf]
     ·simp only[ht,hf,if_true,Bool.and_self,List.flatMap_cons,if_true]
      rw[amQ h4 hq',List.map_map]
      congr 1
      exact List.map_congr_left fun x _=>by simp
theorem amV{ps:List Pn}{ls:List Lt}{rs:List Int}(h4:ps.length≤4)(hq:∀l∈ls,0≤l.qu):yS ps ls rs=(al9 (ps.length+1) ls.length).filter (alZ ps ls rs):=by
 rw[yS,amQ h4 hq]
 exact(List.map_congr_left fun x _=>List.nil_append x).trans (List.map_id _)
end Go.aS

/- SyrupShared. Conditions: none; over the given program. -/
namespace Go.aS
set_option maxRecDepth 100000
set_option maxHeartbeats 4000000
def pdF(ps:List Pn)(ls:List Lt)(rs:List Int)(x:List Int)(acc:Int):Int:=if alZ ps ls rs x then acc+Ba ls x else -1
end Go.aS

/- SyrupShared: what is kept as all lists are gone through. Conditions: none; over the given program. -/
namespace Go.aS
set_option maxRecDepth 100000
set_option maxHeartbeats 4000000
def amS(ps:List Pn)(ls:List Lt)(rs:List Int)(i:Nat):List (List Int):=((al9 (ps.length+1) ls.length).take i).filter (alZ ps ls rs)
def StS(ps:List Pn)(ls:List Lt)(rs:List Int)(i:Nat)(w:Int)(B:List (List Int)):Prop:=
 (i=0∧w= -1∧B=[])∨(1≤i∧wE (Ba ls) (amS ps ls rs i)=(w,B)∧B≠[]∧0≤w)
theorem ams{m:Nat}:∀{k:Nat},(al9 (m+1) k)[0]? =some (List.replicate k (-1))
 | 0=>rfl
 | k+1=>by
  have ih:=ams (m:=m) (k:=k)
  rw[amN,List.getElem?_append_left (by
   rw[List.length_map]
   exact(List.getElem?_eq_some_iff.1 ih).1),List.getElem?_map,ih];rfl
theorem amW{ps:List Pn}{rs:List Int}:∀{ls:List Lt},alZ ps ls rs (List.replicate ls.length (-1))=true∧Ba ls (List.replicate ls.length (-1))=0
 | []=>⟨rfl,rfl⟩
 | l::ls=>by
  obtain⟨h1,h2⟩:=amW (ps:=ps) (rs:=rs) (ls:=ls)
  rw[List.length_cons,List.replicate_succ]
  exact⟨by rw[alZ,if_pos (by decide)];exact h1,by rw[Ba,if_neg (by decide),h2];rfl⟩
theorem anc{ps:List Pn}{ls:List Lt}{rs x:List Int}{i:Nat}(h:(al9 (ps.length+1) ls.length)[i]? =some x):amS ps ls rs (i+1)=amS ps ls rs i++if alZ ps ls rs x then[x]else[]:=by
 rw[amS,List.take_add_one,h,List.filter_append,amS]
 congr 1
 show[x].filter (alZ ps ls rs)=_
 rw[List.filter_cons];rfl
theorem amE{X:Type}[DecidableEq X]{f:X→Int}{xs:List X}{x:X}:wE f (xs++[x])=jQ (wE f xs) x (f x):=by
 rw[wE,List.foldl_append];rfl
theorem StS.next{ps:List Pn}{ls:List Lt}{rs x:List Int}{i:Nat}{w:Int}{B:List (List Int)}(h4:ps.length≤4)(hlo:Au ls)(H:StS ps ls rs i w B)(h:(al9 (ps.length+1) ls.length)[i]? =some x):
  (w<pdF ps ls rs x 0→StS ps ls rs (i+1) (pdF ps ls rs x 0) [x])∧(pdF ps ls rs x 0=w→B≠[]∧StS ps ls rs (i+1) w (B++[x]))∧(pdF ps ls rs x 0<w→StS ps ls rs (i+1) w B):=by
 have hnn:=(ab3 (ls:=ls) (fun l hl=>hlo.lot l hl) (s:=x)).1
 have hpd:pdF ps ls rs x 0=if alZ ps ls rs x then Ba ls x else -1:=by rw[pdF,Int.zero_add]
 have hnx:=anc (rs:=rs) h
 rcases H with⟨rfl,rfl,rfl⟩ | ⟨hi,hm,hB,hw⟩
 ·obtain rfl:x=List.replicate ls.length (-1):=Option.some.inj (h.symm.trans ams)
  obtain⟨hv,hl0⟩:=amW (ps:=ps) (rs:=rs) (ls:=ls)
  rw[hv,if_pos rfl,hl0]at hpd
  rw[hpd]
  refine⟨fun _=>.inr ⟨by omega,?_,by simp,Int.le_refl _⟩,fun h=>by omega,fun h=>by omega⟩
  rw[hnx,hv,if_pos rfl,amE,hl0]
  rw[show amS ps ls rs 0=[]from rfl]
  simp[wE,jQ]
 ·cases hv:alZ ps ls rs x
  ·rw[hv]at hpd hnx
   rw[if_neg (by decide)]at hpd
   rw[if_neg (by decide),List.append_nil]at hnx
   rw[hpd]
   refine⟨fun h=>by omega,fun h=>by omega,fun _=>.inr ⟨by omega,by rw[hnx];exact hm,hB,hw⟩⟩
  ·rw[hv,if_pos rfl]at hpd hnx
   rw[hpd]
   have hxB:x∉B:=by
    have hnd:(amS ps ls rs (i+1)).Nodup:=by
     have:(yS ps ls rs).Nodup:=qX
     rw[amV h4 (fun l hl=>(hlo.lot l hl).1)]at this
     exact(List.Sublist.filter _ (List.take_sublist _ _)).nodup this
    rw[hnx,List.nodup_append]at hnd
    intro hx
    have hM:=(EU (f:=Ba ls) hnd.1).eq
    rw[hm]at hM
    dsimp only at hM
    rw[hM]at hx
    exact hnd.2.2 x (List.mem_filter.1 hx).1 x (List.mem_singleton.2 rfl) rfl
   have hmn:wE (Ba ls) (amS ps ls rs (i+1))=jQ (w,B) x (Ba ls x):=by rw[hnx,amE,hm]
   refine⟨fun h=>.inr ⟨by omega,?_,by simp,by omega⟩,fun h=>⟨hB,.inr ⟨by omega,?_,by simp,hw⟩⟩,fun h=>.inr ⟨by omega,?_,hB,hw⟩⟩
   ·rw[hmn,jQ,if_neg (by simp only;omega)]
    simp only[if_pos h,List.not_mem_nil,if_false,List.nil_append]
   ·rw[hmn,jQ,if_neg (by simp only;omega)]
    rw[h]
    simp only[Int.lt_irrefl,if_false,if_neg hxB]
   ·rw[hmn,jQ,if_pos ⟨hB,h⟩]
theorem StS.all{ps:List Pn}{ls:List Lt}{rs:List Int}{w:Int}{B:List (List Int)}(h4:ps.length≤4)(hlo:Au ls)(H:StS ps ls rs (al9 (ps.length+1) ls.length).length w B):oZ ps ls rs=(w,B):=by
 rcases H with⟨h,-⟩ | ⟨-,h,-⟩
 ·have:=(List.getElem?_eq_some_iff.1 (ams (m:=ps.length) (k:=ls.length))).1
  omega
 ·rw[oZ,amV h4 (fun l hl=>(hlo.lot l hl).1),←h,amS,List.take_length]
def amh(B:List (List Int))(k:Nat):Nat:=(B.filter fun s=>decide (0≤s.getD k 0)).length
theorem ane{B:List (List Int)}{x:List Int}{k:Nat}:amh (B++[x]) k=amh B k+if 0≤x.getD k 0 then 1 else 0:=by
 rw[amh,List.filter_append,List.length_append]
 congr 1
 rw[List.filter_cons]
 by_cases h:0≤x.getD k 0
 ·rw[if_pos h,if_pos (decide_eq_true h)];rfl
 ·rw[if_neg h,if_neg (by simpa using h)];rfl
theorem an7{B:List (List Int)}{k n:Nat}(hB:∀s∈B,s.length=n)(hk:k<n)(hn:n≤4):amh B k=amJ B k:=by
 rw[amh,amJ]
 congr 1
 refine List.filter_congr fun s hs=>?_
 have:(kC s).getD k 0=s.getD k 0:=by
  rw[kC,List.getD_eq_getElem?_getD,List.getD_eq_getElem?_getD,List.getElem?_append_left (by rw[hB s hs];exact hk)]
 rw[this]
theorem aox{o:Option (Nat×List Value)}{n:Nat}{vm:Value}{x:List Int}(h:RmV o n vm)(hx:x.length=n):Vx (Iu o x) vm x:=by
 cases o with
 | none=>
  obtain⟨rfl,rfl⟩:=h
  obtain rfl:=List.length_eq_zero_iff.1 hx
  exact⟨.nil,fun _ _=>.nil⟩
 | some y=>
  obtain⟨cap,rfl⟩:=h
  refine⟨.cons rfl .nil,fun h hL=>?_⟩
  refine Sl.mk (hL y.1 _ (.head _)) hx.symm ?_
  rw[YE]
  exact⟨[],y.2,rfl,rfl⟩
end Go.aS

/- All shares, as the document has them. Conditions: none; over the given program. -/
namespace Go.aS
set_option maxRecDepth 100000
set_option maxHeartbeats 4000000
theorem UG.app{α:Type}{row:α→List Value}{w:Nat}[Rw row w]{E:TypeId}{vs vs':List Sv}{ls ls':List (List α)}{A A':ah}(h:UG E row vs ls A)(h':UG E row vs' ls' A'):UG E row (vs++vs') (ls++ls') (A++A'):=by
 induction h with
 | nil=>exact h'
 | cons h1 _ ih=>rw[List.append_assoc];exact .cons h1 ih
theorem au5(main:Side)(ps:List Pn)(ls:List Lt)(vp vl:Value)(hok:iP ps)(hlo:Au ls):∀(d:Nat) (rs pre:List Int) (vr:Value) (s:Sv) (Sg:ah) (h:Hp),d+pre.length=ls.length→rs.length=ps.length→(∀r∈rs,0≤r∧r≤40)→Sl h Pn.row vp ps→Sl h Lt.row vl ls→Sl h fH vr rs→Os dL fH s.val pre Sg→
  dV prog main atJ #[vp,vl,vr,s.val] h Sg (fun v A=>∃O us B,Os nS ags v us O∧UG dL fH us (Dv ps (ls.drop pre.length) rs pre) B∧Sb (O++B) A):=by
 intro d
 induction d using Nat.strongRecOn with
 | _ d ih=>
  intro rs pre vr s Sg h hd hrl hrb hp hl hr hS
  obtain⟨a,cap,rfl⟩:=hp.dA
  obtain⟨a2,cap2,rfl⟩:=hl.dA
  obtain⟨a3,cap3,rfl⟩:=hr.dA
  obtain⟨a4,cap4,he4⟩:=hS.dA
  obtain⟨s1,s2,s3⟩:=s
  cases he4
  have Du:=hok.len
  have hl4:=hlo.len
  refine dV.aG auw rfl (by show 4≤88;decide) [(0,.slice a ps.length cap),(1,.slice a2 ls.length cap2),(2,.slice a3 rs.length cap3),(3,.slice s1 pre.length s3)] ⟨rfl,rfl,rfl,rfl,trivial⟩ ?_
  refine W.seq<|W.region rfl<|agb rfl rfl rfl<|pq<|W.seq<|W.region rfl<|qm rfl rfl rfl ?_
  refine agW (dM rfl rfl) rfl ?_
  refine agb rfl rfl rfl<|pq<|W.seq<|W.seq<|W.region rfl<|qm rfl rfl rfl<|qm rfl rfl rfl ?_
  refine agW (dM rfl rfl) rfl ?_
  refine agW (nD rfl rfl rfl) rfl ?_
  refine pq ?_
  refine W.bC rfl (fun c18=>?_) (fun c18=>?_)
  ·refine W.seq<|W.region rfl<|qm rfl rfl rfl ?_
   refine Ops.NK (cs:= #[.slice s1 pre.length s3]) (fun an4=>?_) rfl
   refine agb rfl rfl rfl<|pq<|W.ret<|aY ?_
   have hO0:Os nS ags (.slice (some ⟨an4,0,none⟩) 1 1) [(⟨s1,pre.length,s3⟩:Sv)] [(an4,.cells #[.slice s1 pre.length s3] nS (0,0))]:=.inr ⟨an4,_,1,[],rfl,rfl,rfl,Nat.le_refl _,Part.all _,.nil⟩
   have hB0:UG dL fH [(⟨s1,pre.length,s3⟩:Sv)] (Dv ps (ls.drop pre.length) rs pre) (Sg++[]):=by
    rw[List.drop_of_length_le (by omega),Dv]
    exact .cons hS .nil
   exact mg (vs:=[_]) ⟨_,_,_,hO0,hB0,by rw[List.append_nil];exact .refl⟩
  ·obtain⟨d,rfl⟩:∃j,d=j+1:=⟨d-1,by omega⟩
   obtain⟨l,hlt,hdr⟩:=has (show pre.length<ls.length by omega)
   have hlk:=hlo.lot l (List.mem_of_getElem? hlt)
   have hdl:(ls.drop (pre.length+1)).length≤3:=by rw[List.length_drop];omega
   obtain⟨bl,ol,cl,El,fl,hvl,hbl,-,-,hzl⟩:=hl.at hlt
   cases hvl
   have hq2:cl[ol+pre.length*2+0]? =some (I l.qu):=hzl 0 (by decide)
   have hp2:cl[ol+pre.length*2+1]? =some (I l.po):=hzl 1 (by decide)
   have aya:pre.length≤3:=by omega
   refine W.skip<|aA<|W.seq<|W.region rfl<|qm rfl rfl rfl<|qm rfl rfl rfl<|qm rfl rfl rfl ?_
   refine Ops.aeO (fun avR=>?_)
   refine qm rfl rfl rfl ?_
   have axj:Os dL fH (.slice (some ⟨avR,0,none⟩) 0 0) ([]:List Int) [(avR,.cells #[] dL (0,0))]:=.inr ⟨avR, #[],0,[],rfl,rfl,rfl,Nat.le_refl _,Part.all [],.nil⟩
   refine oe rfl wn rfl rfl (iW (row:=fH) (l:=[]) (l':=pre) rfl rfl rfl axj (Seg.head (A:=[_])) (fun h2 _ hl'=>hS.sl (fun b o hb=>hl' b o hb)) (by simp;omega) (by decide) rfl (fun v26 S26 awr=>?_))
   rw[List.nil_append]at awr
   refine Ops.NK (cs:= #[I (-1)]) (fun arO=>?_) rfl
   refine oe rfl wn rfl rfl (iW (row:=fH) (l':=[(-1:Int)]) rfl rfl rfl awr (.tail .head) (fun h2 _ hl'=>Sl.mk (hl' arO _ (.head _)) rfl (Part.all [I (-1)])) (by simp;omega) (by decide) rfl (fun v28 S28 aws=>?_))
   obtain⟨s28,rfl⟩:=Sv.eta aws
   refine cg (A:=S28) (.tail .head) (fun h' hE hL=>ih d (by omega) rs (pre++[-1]) _ s28 S28 h' (by rw[List.length_append,List.length_singleton];omega) hrl hrb (hp.ext hE) (hl.ext hE) (hr.ext hE) aws) (fun v A' hv=>?_)
   obtain⟨O,us,B,hO,hB,hsb⟩:=hv
   rw[List.length_append,List.length_singleton]at hB
   refine Ops.sb (F':=O++(B++Sg)) (.skip rfl (by rw[←List.append_assoc];exact hsb.app .refl)) ?_
   obtain⟨ao,co,rfl⟩:=hO.dA
   refine agb rfl rfl rfl<|pq<|W.seq<|W.seq<|W.region rfl<|agb rfl rfl rfl<|pq<|W.block ?_
   refine W.loop (σ:=Nat×List Sv×Option Addr×Nat×ah×ah) (fun q=>q.1≤ps.length∧Os nS ags (.slice q.2.2.1 q.2.1.length q.2.2.2.1) q.2.1 q.2.2.2.2.1∧UG dL fH q.2.1 (shQ ps l (ls.drop (pre.length+1)) rs pre q.1) q.2.2.2.2.2) (fun q=>[(11,I q.1),(10,.slice q.2.2.1 q.2.1.length q.2.2.2.1),(9,I pre.length),(0,.slice a ps.length cap),(1,.slice (some ⟨bl,ol,none⟩) ls.length cap2),(2,.slice a3 rs.length cap3),(3,.slice s1 pre.length s3)]) (fun q=>q.2.2.2.2.1++(q.2.2.2.2.2++Sg)) (fun q=>ps.length-q.1) (0,us,ao,co,O,B) ⟨Nat.zero_le _,hO,by rw[avF];exact hB⟩ ⟨rfl,rfl,rfl,rfl,rfl,rfl,rfl,trivial⟩ .refl ?_
   clear hO hB hsb
   rintro⟨i,us,sa,sc,O,B⟩ ⟨hi,hO,hB⟩
   dsimp only at*
   refine W.seq<|W.seq<|W.region rfl<|qm rfl rfl rfl<|qm rfl rfl rfl ?_
   refine agW (dM rfl rfl) rfl ?_
   refine agW (fO rfl rfl rfl) rfl ?_
   refine pq ?_
   refine W.bC rfl (fun c33=>?_) (fun c33=>?_)
   ·have hil:i<ps.length:=by omega
    have ayb:=hB.len
    have RF:=au1 (ps:=ps) (l:=l) (rs:=rs) (pre:=pre) hdl (i:=i) (by omega)
    obtain⟨p,hpi,-⟩:=has hil
    have hpk:=hok.pan p (List.mem_of_getElem? hpi)
    obtain⟨r,hri,-⟩:=has (show i<rs.length by omega)
    have hrk:=hrb r (List.mem_of_getElem? hri)
    have hrg:rs.getD i 0=r:=by rw[List.getD_eq_getElem?_getD,hri];rfl
    obtain⟨b3,o3',c3,E3,f3,hv3,hb3,hx3,hy3,-⟩:=hp.at hpi
    cases hv3
    have hx':c3.extract (o3'+i*3) (o3'+i*3+3)= #[I p.lo,I p.hi,I p.sh]:=hx3
    obtain⟨b5,o5,c5,E5,f5,hv5,hb5,-,-,hz5⟩:=hr.at hri
    cases hv5
    have hr5:c5[o5+i*1]? =some (I r):=hz5 0 (by decide)
    have hta:P9 ps l.qu.toNat i=p.takes l.qu:=by rw[Int.toNat_of_nonneg hlk.1];unfold P9;rw[hpi]
    clear hx3 hz5
    refine W.skip<|aA<|W.seq<|W.block<|W.seq<|W.seq ?_
    refine W.DR [] (n:=23) rfl ?_
    refine xq 0 (aN rfl rfl) rfl ?_
    refine xq 1 (aN rfl rfl) rfl ?_
    first | refine xq 2 (G_ rfl rfl rfl) rfl ?_ | refine xq 2 (o_ rfl rfl rfl) rfl ?_
    first | refine xq 3 (Bf rfl rfl) rfl ?_ | refine xq 3 (zi rfl rfl) rfl ?_
    refine xq 4 (aN rfl rfl) rfl ?_
    refine xq 5 (aN rfl rfl) rfl ?_
    first | refine xq 6 (G_ rfl rfl rfl) rfl ?_ | refine xq 6 (o_ rfl rfl rfl) rfl ?_
    refine xq 7 (ay rfl rfl) rfl ?_
    refine xq 8 (iQ rfl rfl) rfl ?_
    refine Va (i:=9) (fun h' hE hL=>aik _ h' p l.qu) ?_ (hS:=.inr Keeps.nil)
    refine xq 10 (xU rfl rfl) rfl ?_
    refine xq 11 (aN rfl rfl) rfl ?_
    refine Any.RV (d':=47) (fun auA=>?_) (fun auA=>?_)
    ·refine ap (i:=12) rfl rfl rfl rfl rfl rfl ?_
     refine ap (i:=13) rfl rfl rfl rfl rfl rfl ?_
     refine ap (i:=14) rfl rfl rfl rfl rfl rfl ?_
     refine ap (i:=15) rfl rfl rfl rfl rfl rfl ?_
     refine ap (i:=16) rfl rfl rfl rfl rfl rfl ?_
     refine ap (i:=17) rfl rfl rfl rfl rfl rfl ?_
     refine ap (i:=18) rfl rfl rfl rfl rfl rfl ?_
     refine ap (i:=19) rfl rfl rfl rfl rfl rfl ?_
     refine ap (i:=20) rfl rfl rfl rfl rfl rfl ?_
     refine ap (i:=21) rfl rfl rfl rfl rfl rfl ?_
     refine xq 22 (dG rfl rfl rfl) rfl ?_
     refine az ?_
     refine aA ?_
     refine W.dW ?_
     refine W.exit<|bP<|gG<|aA<|W.region rfl<|qm rfl rfl rfl ?_
     refine ag1 rfl ?_
     refine agb rfl rfl rfl<|pq ?_
     refine⟨rfl,(i+1,us,sa,sc,O,B),⟨hil,hO,by
      dsimp only
      rw[aui (fun h9=>by
       rw[hta,fits,hrg]at h9
       first
       | (rw[h9.1]at auA;simp at auA;done)
       | (have:=h9.2;simp at this;omega))]
      exact hB⟩,by dsimp only;omega,⟨rfl,rfl,rfl,rfl,rfl,rfl,rfl,trivial⟩,.refl⟩
    ·refine aq (i:=12) (aN rfl rfl) rfl (b_ rfl rfl rfl rfl) rfl rfl ?_
     refine aq (i:=13) (aN rfl rfl) rfl (b_ rfl rfl rfl rfl) rfl rfl ?_
     first | refine aq (i:=14) (G_ rfl rfl rfl) rfl (b_ rfl rfl rfl rfl) rfl rfl ?_ | refine aq (i:=14) (o_ rfl rfl rfl) rfl (b_ rfl rfl rfl rfl) rfl rfl ?_
     refine aq (i:=15) (ay rfl rfl) rfl (b_ rfl rfl rfl rfl) rfl rfl ?_
     refine aq (i:=16) (iQ rfl rfl) rfl (b_ rfl rfl rfl rfl) rfl rfl ?_
     refine aq (i:=17) (aN rfl rfl) rfl (b_ rfl rfl rfl rfl) rfl rfl ?_
     refine aq (i:=18) (aN rfl rfl) rfl (b_ rfl rfl rfl rfl) rfl rfl ?_
     first | refine aq (i:=19) (G_ rfl rfl rfl) rfl (b_ rfl rfl rfl rfl) rfl rfl ?_ | refine aq (i:=19) (o_ rfl rfl rfl) rfl (b_ rfl rfl rfl rfl) rfl rfl ?_
     refine aq (i:=20) (iQ rfl rfl) rfl (b_ rfl rfl rfl rfl) rfl rfl ?_
     refine aq (i:=21) (rC rfl rfl rfl) rfl (b_ rfl rfl rfl rfl) rfl rfl ?_
     refine xq 22 (iH rfl rfl rfl) rfl ?_
     refine az ?_
     refine aA ?_
     refine W.bC rfl (fun c58=>?_) (fun c58=>?_)
     ·refine W.exit<|bP<|gG<|aA<|W.region rfl<|qm rfl rfl rfl ?_
      refine ag1 rfl ?_
      refine agb rfl rfl rfl<|pq ?_
      refine⟨rfl,(i+1,us,sa,sc,O,B),⟨hil,hO,by
       dsimp only
       rw[aui (fun h9=>by
        rw[hta,fits,hrg]at h9
        first
        | (rw[h9.1]at auA;simp at auA;done)
        | (have:=h9.2;simp at this;omega))]
       exact hB⟩,by dsimp only;omega,⟨rfl,rfl,rfl,rfl,rfl,rfl,rfl,trivial⟩,.refl⟩
     ·refine W.skip<|aA<|W.seq<|W.region rfl ?_
      refine Ops.aeO (fun avS=>?_)
      refine qm rfl rfl rfl ?_
      have axl:Os dL fH (.slice (some ⟨avS,0,none⟩) 0 0) ([]:List Int) [(avS,.cells #[] dL (0,0))]:=.inr ⟨avS, #[],0,[],rfl,rfl,rfl,Nat.le_refl _,Part.all [],.nil⟩
      refine oe rfl wn rfl rfl (iW (row:=fH) (l:=[]) (l':=rs) rfl rfl rfl axl (Seg.head (A:=[_])) (fun h2 hE _=>hr.ext hE) (by simp;omega) (by decide) rfl (fun v61 S61 awt=>?_))
      rw[List.nil_append]at awt
      obtain⟨o,hrm,Oh⟩:=aau awt
      obtain⟨y,rfl⟩:∃y,o=some y:=by
       cases o with
       | none=>have:=hrm.1;omega
       | some y=>exact⟨y,rfl⟩
      obtain⟨βr,tl⟩:=y
      have axm:=hrm
      obtain⟨cap5,rfl⟩:=hrm
      have hr0:=YC (tl:=tl) (rs:=rs) (p:=i) (by omega)
      rw[hrg]at hr0
      have hsz:=Uy (tl:=tl) (rs:=rs) (p:=i) (by omega)
      refine Ops.sb (F':=(βr,QK tl rs)::(O++(B++Sg))) (Oh.app .refl) ?_
      refine agb rfl rfl rfl<|pq<|W.seq ?_
      refine W.rE (n:=14) rfl ?_
      refine xq 0 (aN rfl rfl) rfl ?_
      refine xq 1 (aN rfl rfl) rfl ?_
      refine xq 2 (aN rfl rfl) rfl ?_
      refine xq 3 (aN rfl rfl) rfl ?_
      first | refine xq 4 (G_ rfl rfl rfl) rfl ?_ | refine xq 4 (o_ rfl rfl rfl) rfl ?_
      refine xq 5 (iQ rfl rfl) rfl ?_
      refine xq 6 (aN rfl rfl) rfl ?_
      refine xq 7 (aN rfl rfl) rfl ?_
      first | refine xq 8 (G_ rfl rfl rfl) rfl ?_ | refine xq 8 (o_ rfl rfl rfl) rfl ?_
      refine xq 9 (ay rfl rfl) rfl ?_
      refine xq 10 (iQ rfl rfl) rfl ?_
      first | refine xq 11 (acL rfl rfl rfl) rfl ?_ | refine xq 11 (M_ rfl rfl rfl) rfl ?_
      first | refine xq 12 (G_ rfl rfl rfl) rfl ?_ | refine xq 12 (o_ rfl rfl rfl) rfl ?_
      refine ae (i:=13) rfl an rfl rfl (eS rfl rfl rfl ?_)
      refine⟨.inl (by kernel_rfl),?_⟩
      refine az ?_
      refine aA<|W.region rfl<|qm rfl rfl rfl<|qm rfl rfl rfl<|qm rfl rfl rfl<|qm rfl rfl rfl ?_
      rw[YD (by omega),show rs.set i (r-l.po)=less l rs i from by rw[less,hrg]]
      refine Ops.aeO (fun avT=>?_)
      refine qm rfl rfl rfl ?_
      have axn:Os dL fH (.slice (some ⟨avT,0,none⟩) 0 0) ([]:List Int) [(avT,.cells #[] dL (0,0))]:=.inr ⟨avT, #[],0,[],rfl,rfl,rfl,Nat.le_refl _,Part.all [],.nil⟩
      refine oe rfl wn rfl rfl (iW (row:=fH) (l:=[]) (l':=pre) rfl rfl rfl axn (Seg.head (A:=[_])) (fun h2 _ hl'=>hS.sl (fun b o hb=>hl' b o (List.mem_append_right [] (List.mem_cons_of_mem _ (List.mem_append_right _ (List.mem_append_right _ hb)))))) (by simp;omega) (by decide) rfl (fun v81 S81 awu=>?_))
      rw[List.nil_append]at awu
      refine qm rfl rfl rfl ?_
      refine Ops.NK (cs:= #[I i]) (fun axo=>?_) rfl
      refine oe rfl wn rfl rfl (iW (row:=fH) (l':=[(i:Int)]) rfl rfl rfl awu (.tail .head) (fun h2 _ hl'=>Sl.mk (hl' axo _ (.head _)) rfl (Part.all [I i])) (by simp;omega) (by decide) rfl (fun v84 S84 awv=>?_))
      obtain⟨s84,rfl⟩:=Sv.eta awv
      have hfi:fits l rs i=true:=by rw[fits,hrg,decide_eq_false (show¬r<l.po by omega)];rfl
      have hrd:=aox axm (x:=less l rs i) (by rw[Qs])
      refine cg (A:=S84) (.tail .head) (fun h' hE hL=>ih d (by omega) (less l rs i) (pre++[(i:Int)]) _ s84 S84 h' (by rw[List.length_append,List.length_singleton];omega) (by rw[Qs];exact hrl) (aas hrb (by omega) (by omega) hfi) (hp.ext hE) (hl.ext hE) (hrd.2 _ (fun b o hb=>hL b o (by
       cases List.mem_singleton.1 hb
       exact List.mem_cons_of_mem _ (List.mem_append_right [] (.head _))))) awv) (fun v A2 hv=>?_)
      obtain⟨O2,us2,B2,hO2,hB2,akw⟩:=hv
      rw[List.length_append,List.length_singleton]at hB2
      have agm:=hB2.len
      have hg2:us2.length≤125:=by rw[agm];exact Nat.le_trans Oy (Nat.le_trans (Nat.pow_le_pow_right (by omega) hdl) (by decide))
      refine Ops.sb (F':=(O2++B2)++(O++(B++Sg))) (.skip rfl (akw.app (.skip rfl .refl))) ?_
      refine oe rfl wn rfl rfl (iW (row:=ags) (l':=us2) rfl rfl rfl hO (.app .head) (fun h2 _ hl'=>hO2.sl (fun b o hb=>hl' b o (List.mem_append_left _ (List.mem_append_left _ hb)))) (by simp;omega) (by decide) rfl (fun v3 N3 hN3=>?_))
      obtain⟨na3,nc3,rfl⟩:=hN3.dA
      refine agb rfl rfl rfl<|Ops.nil<|dI<|aA<|W.region rfl<|qm rfl rfl rfl ?_
      refine ag1 rfl ?_
      refine agb rfl rfl rfl<|pq ?_
      have htk:P9 ps l.qu.toNat i=true:=by rw[hta];simpa using auA
      refine⟨rfl,(i+1,us++us2,na3,nc3,N3,B++B2),⟨hil,hN3,by dsimp only;rw[au0 htk hfi];exact hB.app hB2⟩,by dsimp only;omega,⟨rfl,rfl,rfl,rfl,rfl,rfl,rfl,trivial⟩,?_⟩
      dsimp only
      refine⟨O2,agQ fun y=>?_,hO2.shut⟩
      simp only[List.count_append,List.count_cons,List.count_nil];omega
   ·refine W.exit<|bP<|bP<|gG<|aA<|W.seq<|W.region rfl<|qm rfl rfl rfl<|agb rfl rfl rfl<|Ops.nil ?_
    refine aA<|W.ret ?_
    obtain rfl:i=ps.length:=by omega
    refine mg (vs:=[_]) ⟨O,us,B,hO,?_,.app .refl (.right .refl hS.shut)⟩
    rw[hdr,←avp Du];exact hB
end Go.aS

/- The room that is needed. Conditions: none; no program in sight. -/
namespace Go.aS
set_option linter.unusedVariables false
def asD(ps:List Pn):List Lt→Int
 | []=>0
 | l::ls=>(if dY ps l.qu then 0 else l.po)+asD ps ls
abbrev auy(ls:List Lt):Prop:=∀l∈ls,0≤l.qu∧l.qu≤12∧1≤l.po∧l.po≤9
theorem atg{ps:List Pn}:∀{ls:List Lt},auy ls→0≤asD ps ls∧asD ps ls≤9*ls.length
 | [],_=>by simp[asD]
 | l::ls,h=>by
  have h1:=atg (ps:=ps) (ls:=ls) fun x hx=>h x (List.mem_cons_of_mem _ hx)
  have h2:=h l (List.mem_cons_self ..)
  simp only[asD,List.length_cons]
  split <;>omega
theorem auB{ps:List Pn}{ls:List Lt}{l:Lt}{k:Nat}(hl:ls[k]? =some l):asD ps (ls.take (k+1))=asD ps (ls.take k)+if dY ps l.qu then 0 else l.po:=by
 induction k generalizing ls with
 | zero=>
  rcases ls with _ | ⟨x,ls⟩ <;>simp at hl
  subst hl
  simp[asD]
 | succ k ih=>
  rcases ls with _ | ⟨x,ls⟩ <;>simp at hl
  have:=ih hl
  simp only[List.take_succ_cons,asD]
  omega
theorem avr{ps:List Pn}{q:Int}{i:Nat}(h:P9 ps q i=true):dY ps q=false:=by
 unfold P9 at h
 split at h
 ·rename_i p hp
  rw[dY,List.all_eq_false]
  exact⟨p,List.mem_of_getElem? hp,by simp[h]⟩
 ·cases h
theorem au6{ps:List Pn}{q:Int}(h:dY ps q=false):∃i,i<ps.length∧P9 ps q i=true:=by
 rw[dY,List.all_eq_false]at h
 obtain⟨p,hp,h1⟩:=h
 obtain⟨i,hi,rfl⟩:=List.getElem_of_mem hp
 refine⟨i,hi,?_⟩
 unfold P9
 rw[List.getElem?_eq_getElem hi]
 simpa using h1
theorem auC{ps:List Pn}{ls:List Lt}{rs pre s:List Int}{a:Int}(h:s∈Dv ps ls rs (pre++[a])):s.drop pre.length=a::s.drop (pre++[a]).length:=by
 have q:=(Ot h).2.1
 have e:s=(pre++[a])++s.drop (pre++[a]).length:=by
  conv=>lhs;rw[←List.take_append_drop (pre++[a]).length s,q]
 conv=>lhs;rw[e,List.append_assoc,List.drop_left]
 rfl
theorem auJ{ps:List Pn}:∀{ls:List Lt} {rs pre s:List Int},auy ls→s∈Dv ps ls rs pre→Ba ls (s.drop pre.length)≤asD ps ls
 | [],rs,pre,s,_,h=>by
  have:s=pre:=by simpa[Dv]using h
  subst this;simp[Ba,asD]
 | l::ls,rs,pre,s,hl,h=>by
  have hl':auy ls:=fun x hx=>hl x (List.mem_cons_of_mem _ hx)
  have h0:=hl l (List.mem_cons_self ..)
  simp only[Dv,List.mem_append,List.mem_flatMap]at h
  rcases h with h | ⟨p,hp,h⟩
  ·rw[auC h]
   have:=auJ hl' h
   simp only[Ba,asD]
   have:¬(0:Int)≤-1:=by omega
   rw[if_neg this]
   split <;>omega
  ·split at h
   ·rw[auC h]
    have:=auJ hl' h
    simp only[Ba,asD]
    have ht:=avr (Ak.1 hp).2.1
    rw[Int.toNat_of_nonneg h0.1]at ht
    rw[ht]
    simp only[Bool.false_eq_true,if_false]
    split <;>omega
   ·cases h
theorem avf{rs:List Int}{p i:Nat}{a:Int}(hp:p<rs.length):(rs.set p a).getD i 0=if i=p then a else rs.getD i 0:=by
 simp only[List.getD_eq_getElem?_getD,List.getElem?_set]
 by_cases h:p=i
 ·subst h;simp[hp]
 ·rw[if_neg h,if_neg fun e=>h e.symm]
theorem auL{ps:List Pn}(h4:ps.length≤4):∀{ls:List Lt} {rs pre:List Int},auy ls→rs.length=ps.length→(∀p,p<ps.length→asD ps ls≤rs.getD p 0)→∃t,pre++t∈Dv ps ls rs pre∧Ba ls t=asD ps ls
 | [],rs,pre,_,_,_=>⟨[],by simp[Dv],by simp[Ba,asD]⟩
 | l::ls,rs,pre,hl,hn,hr=>by
  have hl':auy ls:=fun x hx=>hl x (List.mem_cons_of_mem _ hx)
  have h0:=hl l (List.mem_cons_self ..)
  cases ht:dY ps l.qu with
  | true=>
   obtain⟨t,h1,h2⟩:=auL h4 (pre:=pre++[-1]) hl' hn fun p hp=>by
    have:=hr p hp
    simp only[asD,ht,if_true]at this;omega
   refine⟨-1::t,?_,?_⟩
   ·rw[Dv]
    exact List.mem_append_left _ (by simpa using h1)
   ·simp only[Ba,asD,ht,if_true,h2]
    rw[if_neg (by omega)]
  | false=>
   obtain⟨p,hp,h3⟩:=au6 ht
   have hd:=atg (ps:=ps) hl'
   have hrp:=hr p hp
   simp only[asD,ht]at hrp
   have hf:fits l rs p=true:=by simp[fits];simp at hrp;omega
   obtain⟨t,h1,h2⟩:=auL h4 (pre:=pre++[(p:Int)]) (rs:=less l rs p) hl' (by rw[Qs,hn]) fun i hi=>by
    have:=hr i hi
    simp only[asD,ht]at this
    rw[less,avf (by omega)]
    split <;>simp at* <;>omega
   refine⟨(p:Int)::t,?_,?_⟩
   ·rw[Dv]
    refine List.mem_append_right _ (List.mem_flatMap.2 ⟨p,?_,?_⟩)
    ·rw[auz h4,List.mem_filter]
     exact⟨List.mem_range.2 hp,by rw[Int.toNat_of_nonneg h0.1];exact h3⟩
    ·rw[if_pos hf];simpa using h1
   ·simp only[Ba,asD,ht,h2]
    rw[if_pos (by omega)];rfl
def ath(ps:List Pn)(ls:List Lt)(n:Nat):Bool:=(yS ps ls (List.replicate ps.length (n:Int))).any fun s=>decide (Ba ls s=asD ps ls)
theorem avs{m:Nat}{a:Int}{p:Nat}:(List.replicate m a).getD p 0=if p<m then a else 0:=by
 simp only[List.getD_eq_getElem?_getD,List.getElem?_replicate]
 split <;>rfl
theorem auk{ps:List Pn}{ls:List Lt}(h4:ps.length≤4)(hl:auy ls):ath ps ls (asD ps ls).toNat=true:=by
 have hd:=atg (ps:=ps) hl
 rw[ath,List.any_eq_true]
 obtain⟨t,h1,h2⟩:=auL h4 (ls:=ls) (rs:=List.replicate ps.length (((asD ps ls).toNat:Nat):Int)) (pre:=[]) hl (by simp) fun p hp=>by
  rw[avs,if_pos hp];omega
 exact⟨t,by simpa[yS]using h1,decide_eq_true h2⟩
theorem auD{ps:List Pn}{ls:List Lt}{rs:List Int}:∃s∈yS ps ls rs,Ba ls s=(oZ ps ls rs).1:=by
 have h1:lY (Ba ls) (yS ps ls rs) (oZ ps ls rs):=EU qX
 obtain⟨x,hx⟩:=List.exists_mem_of_ne_nil _ (h1.ne Ou)
 rw[h1.eq]at hx
 obtain⟨a,b⟩:=List.mem_filter.1 hx
 exact⟨x,a,of_decide_eq_true b⟩
theorem au7{ps:List Pn}{ls:List Lt}{rs:List Int}(hl:auy ls):(oZ ps ls rs).1≤asD ps ls:=by
 obtain⟨s,h1,h2⟩:=auD (ps:=ps) (ls:=ls) (rs:=rs)
 rw[←h2];exact auJ (pre:=[]) hl h1
theorem avg{ps:List Pn}{ls:List Lt}{n:Nat}(hl:auy ls):(oZ ps ls (List.replicate ps.length (n:Int))).1=asD ps ls↔ath ps ls n=true:=by
 have h1:lY (Ba ls) (yS ps ls (List.replicate ps.length (n:Int))) (oZ ps ls _):=EU qX
 rw[ath,List.any_eq_true]
 constructor
 ·intro h
  obtain⟨s,h1,h2⟩:=auD (ps:=ps) (ls:=ls) (rs:=List.replicate ps.length (n:Int))
  exact⟨s,h1,decide_eq_true (h2.trans h)⟩
 ·rintro⟨s,h2,h3⟩
  have:=h1.le s h2
  have:=au7 (ps:=ps) (rs:=List.replicate ps.length (n:Int)) hl
  have:=of_decide_eq_true h3
  omega
def atl(ps:List Pn)(ls:List Lt):Nat:=((List.range ((asD ps ls).toNat+1)).find? (ath ps ls)).getD 0
theorem atC{ps:List Pn}{ls:List Lt}(h4:ps.length≤4)(hl:auy ls):ath ps ls (atl ps ls)=true∧atl ps ls≤(asD ps ls).toNat∧∀j,j<atl ps ls→ath ps ls j=false:=by
 have hd:=auk (ls:=ls) h4 hl
 cases hf:(List.range ((asD ps ls).toNat+1)).find? (ath ps ls)with
 | none=>
  rw[List.find?_eq_none]at hf
  exact absurd hd (hf _ (List.mem_range.2 (by omega)))
 | some n=>
  have e:atl ps ls=n:=by rw[atl,hf];rfl
  rw[e]
  have hm:=List.mem_range.1 (List.mem_of_find?_eq_some hf)
  refine⟨List.find?_some hf,by omega,fun j hj=>?_⟩
  rw[List.find?_range_eq_some]at hf
  have:=hf.2.2 j hj
  simpa using this
theorem aum{ps:List Pn}{ls:List Lt}(h4:ps.length≤4)(hl:auy ls){n:Nat}(h:ath ps ls n=true)(hj:∀j,j<n→ath ps ls j=false):atl ps ls=n:=by
 obtain⟨h1,h2,h3⟩:=atC h4 hl
 rcases Nat.lt_trichotomy (atl ps ls) n with h5 | h5 | h5
 ·rw[hj _ h5]at h1;cases h1
 ·exact h5
 ·rw[h3 _ h5]at h;cases h
end Go.aS
