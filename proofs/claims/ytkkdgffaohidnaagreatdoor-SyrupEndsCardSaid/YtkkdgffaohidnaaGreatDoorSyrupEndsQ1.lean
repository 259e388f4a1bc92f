/- Treacle, as the document has it. Conditions: none; over the given program. (And 29 texts more.) -/
import Derived.Test.YtkkdgffaohidnaaGreatDoorR14
import Derived.Test.YtkkdgffaohidnaaGreatDoorR13
import Derived.Test.YtkkdgffaohidnaaGreatDoorR10
import Derived.Test.YtkkdgffaohidnaaGreatDoorR09
import Derived.Test.YtkkdgffaohidnaaGreatDoorR11
set_option linter.unusedVariables false
set_option linter.unusedSimpArgs false
set_option linter.unusedSectionVars false

/- Treacle, as the document has it. Conditions: none; over the given program. -/
namespace Go.aS
set_option maxRecDepth 100000
set_option maxHeartbeats 4000000
theorem aii(main:Side)(h:Hp)(n lo hi:Int):Pu prog main ahB #[I n,I lo,I hi] h (.bool (decide (lo≤n)&&decide (n≤hi))):=by
 refine dV.aG ah1 rfl (by show 3≤15;decide) [(0,I n),(1,I lo),(2,I hi)] ⟨rfl,rfl,rfl,trivial⟩ ?_
 refine W.seq<|W.region rfl<|agb rfl rfl rfl<|pq<|W.seq<|W.region rfl<|qm rfl rfl rfl<|qm rfl rfl rfl ?_
 refine agW (IJ rfl rfl rfl) rfl ?_
 refine qm rfl rfl rfl ?_
 refine Ops.ask (fun ae5=>?_) (fun ae5=>?_)
 ·refine oq (aN rfl rfl) rfl (ak rfl rfl rfl) rfl rfl ?_
  refine oq (aN rfl rfl) rfl (ak rfl rfl rfl) rfl rfl ?_
  refine oq (Lr rfl rfl rfl) rfl (ak rfl rfl rfl) rfl rfl ?_
  refine agW (dG rfl rfl rfl) rfl ?_
  refine agb rfl rfl rfl<|pq<|W.ret ?_
  refine uZ ?_
  exact congrArg Value.bool (by simp[*])
 ·refine Ops.no ?_
  refine Ops.no ?_
  refine Ops.no ?_
  refine agW (iH rfl rfl rfl) rfl ?_
  refine agb rfl rfl rfl<|pq<|W.ret ?_
  refine uZ ?_
  exact congrArg Value.bool (by simp[*])
theorem aik(main:Side)(h:Hp)(p:Pn)(q:Int):Pu prog main ahz #[p.val,I q] h (.bool (p.takes q)):=by
 refine dV.aG ah0 rfl (by show 2≤11;decide) [(0,p.val),(1,I q)] ⟨rfl,rfl,trivial⟩ ?_
 refine W.seq<|W.region rfl ?_
 refine Ops.box (cs:= #[I p.lo,I p.hi,I p.sh]) (fun yR=>?_)
 refine agb rfl rfl rfl<|pq<|W.seq<|W.region rfl<|qm rfl rfl rfl ?_
 refine agY rfl ?_
 refine agX rfl ?_
 refine agY rfl ?_
 refine agX rfl ?_
 refine cp (fun h' hE hL=>aii _ h' q p.lo p.hi) ?_
 refine agb rfl rfl rfl<|pq<|W.ret ?_
 exact uZ rfl
theorem ah6(main:Side)(h:Hp)(ps:List Pn)(vp:Value)(q:Int)(hf:Sl h Pn.row vp ps)(hn:ps.length≤1000):Pu prog main ahr #[vp,I q] h (.bool (dY ps q)):=by
 obtain⟨a,cap,rfl⟩:=hf.dA
 refine dV.aG ahS rfl (by show 2≤18;decide) [(0,.slice a ps.length cap),(1,I q)] ⟨rfl,rfl,trivial⟩ ?_
 refine W.seq<|W.region rfl<|agb rfl rfl rfl<|pq<|W.seq<|W.seq<|W.region rfl<|agb rfl rfl rfl<|Ops.nil ?_
 refine aA<|W.block ?_
 refine W.loop (σ:=Nat) (fun i=>i≤ps.length∧dY ps q=dY (ps.drop i) q) (fun i=>[(5,I i),(0,.slice a ps.length cap),(1,I q)]) (fun _=>[]) (fun i=>ps.length-i) 0 ⟨Nat.zero_le _,rfl⟩ ⟨rfl,rfl,rfl,trivial⟩ .refl ?_
 rintro i ⟨hi,ht⟩
 refine W.seq<|W.seq<|W.region rfl<|qm rfl rfl rfl<|qm rfl rfl rfl ?_
 refine agW (dM rfl rfl) rfl ?_
 refine agW (fO rfl rfl rfl) rfl ?_
 refine pq ?_
 refine W.bC rfl (fun c9=>?_) (fun c9=>?_)
 ·have hil:i<ps.length:=by omega
  obtain⟨p,hp,hdr⟩:=has hil
  rw[hdr,show dY (p::ps.drop (i+1)) q=(!p.takes q&&dY (ps.drop (i+1)) q)from rfl]at ht
  obtain⟨b,off,c,E,fz,hv,hb,hx,hy,hz⟩:=hf.at hp
  cases hv
  have hx':c.extract (off+i*3) (off+i*3+3)= #[I p.lo,I p.hi,I p.sh]:=hx
  clear hx
  refine W.skip<|aA<|W.seq<|W.block<|W.seq<|W.region rfl<|qm rfl rfl rfl<|qm rfl rfl rfl ?_
  refine ag3 rfl ?_
  refine ag2 rfl ?_
  refine qm rfl rfl rfl ?_
  refine cp (fun h' hE hL=>aik _ h' p q) ?_
  refine pq ?_
  refine W.cond rfl (fun c17=>?_) (fun c17=>?_)
  ·refine W.seq<|W.region rfl<|agb rfl rfl rfl<|pq<|W.ret<|cZ<|aY<|aY<|cZ ?_
   refine aY ?_
   refine uZ ?_
   rw[ht,c17];rfl
  ·refine W.skip<|dI<|aA<|W.region rfl<|qm rfl rfl rfl ?_
   refine ag1 rfl ?_
   refine agb rfl rfl rfl<|pq ?_
   refine⟨rfl,i+1,⟨hil,?_⟩,by omega,⟨rfl,rfl,rfl,trivial⟩,.refl⟩
   rw[ht,show p.takes q=false by simpa using c17];rfl
 ·refine W.exit<|bP<|bP<|gG<|aA<|W.seq<|W.region rfl<|agb rfl rfl rfl<|pq ?_
  refine W.ret ?_
  obtain rfl:i=ps.length:=by omega
  refine uZ ?_
  rw[ht,List.drop_length];rfl
end Go.aS

/- Pans that are checked, and which of them take a syrup, as the document has it and as the program has it. Conditions: none; over the given program. -/
namespace Go.aS
set_option maxRecDepth 100000
set_option maxHeartbeats 4000000
theorem akO(n lo hi:Int):(!(decide (lo≤n)&&decide (n≤hi)))=decide (outs n lo hi):=by
 rw[←Bool.decide_and,←decide_not]
 exact decide_eq_decide.2 (by unfold outs;omega)
theorem ak9(main:Side)(h:Hp)(ps:List Pn)(vp:Value)(hf:Sl h Pn.row vp ps):Pu prog main akx #[vp] h (I (nV ps)):=by
 obtain⟨a,cap,rfl⟩:=hf.dA
 refine dV.aG akM rfl (by show 1≤37;decide) [(0,.slice a ps.length cap)] ⟨rfl,trivial⟩ ?_
 refine W.seq<|W.region rfl<|agb rfl rfl rfl<|pq<|W.seq<|W.seq<|W.region rfl<|qm rfl rfl rfl ?_
 refine agW (dM rfl rfl) rfl ?_
 refine agW (rC rfl rfl rfl) rfl ?_
 refine pq ?_
 refine W.bC rfl (fun c7=>?_) (fun c7=>?_)
 ·refine W.seq<|W.region rfl<|agb rfl rfl rfl<|pq<|W.ret<|aY ?_
  refine uZ ?_
  show I _=I _;congr 1;rw[nV,if_pos (by omega)]
 ·have h4:ps.length≤4:=by omega
  have hcp:nV ps=lX ps:=by rw[nV,if_neg (by omega)]
  refine W.skip<|aA<|W.seq<|W.seq<|W.region rfl<|agb rfl rfl rfl<|pq<|W.block ?_
  refine W.loop (σ:=Nat) (fun i=>i≤ps.length∧lX ps=lX (ps.drop i)) (fun i=>[(3,I i),(0,.slice a ps.length cap)]) (fun _=>[]) (fun i=>ps.length-i) 0 ⟨Nat.zero_le _,rfl⟩ ⟨rfl,rfl,trivial⟩ .refl ?_
  rintro i ⟨hi,ht⟩
  refine W.seq<|W.seq<|W.region rfl<|qm rfl rfl rfl<|qm rfl rfl rfl ?_
  refine agW (dM rfl rfl) rfl ?_
  refine agW (fO rfl rfl rfl) rfl ?_
  refine pq ?_
  refine W.bC rfl (fun c11=>?_) (fun c11=>?_)
  ·have hil:i<ps.length:=by omega
   obtain⟨p,hp,hdr⟩:=has hil
   rw[hdr,lX]at ht
   obtain⟨b,off,c,E,fz,hv,hb,hx,hy,hz⟩:=hf.at hp
   cases hv
   have hx':c.extract (off+i*3) (off+i*3+3)= #[I p.lo,I p.hi,I p.sh]:=hx
   clear hx
   refine W.skip<|aA<|W.seq<|W.block<|W.seq<|W.region rfl<|qm rfl rfl rfl<|qm rfl rfl rfl ?_
   refine ag3 rfl ?_
   refine ag2 rfl ?_
   refine Ops.new (fun wC=>?_)
   refine Ops.jP (vs:= #[I p.lo,I p.hi,I p.sh]) ?_
   refine pq<|W.seq<|W.seq<|W.region rfl ?_
   refine agY rfl ?_
   refine agX rfl ?_
   refine cp (fun h' hE hL=>aii _ h' p.lo 0 12) ?_
   refine KU (xU rfl rfl) (congrArg Value.bool (akO p.lo 0 12)) rfl wn rfl rfl ?_
   refine qm rfl rfl rfl ?_
   refine Ops.ask (fun alJ=>?_) (fun alJ=>?_)
   ·refine Ops.no ?_
    refine Ops.no ?_
    refine Ops.no ?_
    refine Ops.no ?_
    refine agW (dG rfl rfl rfl) rfl ?_
    refine pq ?_
    refine W.dW ?_
    refine W.seq<|W.region rfl<|agb rfl rfl rfl<|pq<|W.ret<|aY<|cZ<|aY<|aY ?_
    refine cZ<|aY ?_
    have hk:gW p=1:=by rw[gW,if_pos (by first | exact .inl (by assumption) | exact .inr (by assumption))]
    refine uZ ?_
    show I _=I _;congr 1;rw[hcp,ht,hk];rfl
   ·refine oq (ay rfl rfl) rfl (ak rfl rfl rfl) rfl rfl ?_
    refine oq (iQ rfl rfl) rfl (ak rfl rfl rfl) rfl rfl ?_
    refine cp (g:=some _) (fun h' hE hL=>aii _ h' p.hi 0 12) ?_
    refine KU (xU rfl rfl) (congrArg Value.bool (akO p.hi 0 12)) rfl (ak rfl rfl rfl) rfl rfl ?_
    refine agW (iH rfl rfl rfl) rfl ?_
    refine pq ?_
    refine W.bC rfl (fun c27=>?_) (fun c27=>?_)
    ·refine W.seq<|W.region rfl<|agb rfl rfl rfl<|pq<|W.ret<|aY<|cZ<|aY<|aY ?_
     refine cZ<|aY ?_
     have hk:gW p=1:=by rw[gW,if_pos (by first | exact .inl (by assumption) | exact .inr (by assumption))]
     refine uZ ?_
     show I _=I _;congr 1;rw[hcp,ht,hk];rfl
    ·refine W.skip<|aA<|W.seq<|W.seq<|W.region rfl ?_
     refine agY rfl ?_
     refine agX rfl ?_
     refine agY rfl ?_
     refine agX rfl ?_
     refine agW (rC rfl rfl rfl) rfl ?_
     refine pq ?_
     refine W.bC rfl (fun c32=>?_) (fun c32=>?_)
     ·refine W.seq<|W.region rfl<|agb rfl rfl rfl<|pq<|W.ret<|aY<|cZ<|aY<|aY ?_
      refine cZ<|aY ?_
      have hk:gW p=5:=by rw[gW,if_neg (by intro h;rcases h with h | h <;>contradiction),if_pos (by omega)]
      refine uZ ?_
      show I _=I _;congr 1;rw[hcp,ht,hk];rfl
     ·refine W.skip<|aA<|W.seq<|W.region rfl ?_
      refine agY rfl ?_
      refine agX rfl ?_
      refine cp (fun h' hE hL=>aii _ h' p.sh (-6) 6) ?_
      refine KU (xU rfl rfl) (congrArg Value.bool (akO p.sh (-6) 6)) rfl wn rfl rfl ?_
      refine pq ?_
      refine W.bC rfl (fun c36=>?_) (fun c36=>?_)
      ·refine W.seq<|W.region rfl<|agb rfl rfl rfl<|pq<|W.ret<|cZ<|aY<|aY<|cZ ?_
       refine aY ?_
       have hk:gW p=1:=by rw[gW,if_neg (by intro h;rcases h with h | h <;>contradiction),if_neg (by omega),if_pos (by assumption)]
       refine uZ ?_
       show I _=I _;congr 1;rw[hcp,ht,hk];rfl
      ·refine W.skip<|dI<|aA<|W.region rfl<|qm rfl rfl rfl ?_
       refine ag1 rfl ?_
       refine agb rfl rfl rfl<|pq ?_
       have hk:gW p=0:=by rw[gW,if_neg (by intro h;rcases h with h | h <;>contradiction),if_neg (by omega),if_neg (by assumption)]
       exact⟨rfl,i+1,⟨hil,by rw[ht,hk];rfl⟩,by omega,⟨rfl,rfl,trivial⟩,.skip rfl .refl⟩
  ·refine W.exit<|bP<|bP<|gG<|aA<|W.seq<|W.region rfl<|agb rfl rfl rfl<|pq ?_
   refine W.ret ?_
   obtain rfl:i=ps.length:=by omega
   refine uZ ?_
   show I _=I _;congr 1;rw[hcp,ht,List.drop_length];rfl
theorem akP{ps:List Pn}{q:Int}:kU ps [q]=if nV ps≠0 then nV ps else if outs q 0 12 then 1 else 0:=by
 unfold kU;simp
theorem ald(main:Side)(h:Hp)(ps:List Pn)(vp:Value)(q:Int)(hf:Sl h Pn.row vp ps):Pu prog main aky #[vp,I q] h (I (kU ps [q])):=by
 obtain⟨a,cap,rfl⟩:=hf.dA
 refine dV.aG akN rfl (by show 2≤14;decide) [(0,.slice a ps.length cap),(1,I q)] ⟨rfl,rfl,trivial⟩ ?_
 refine W.seq<|W.region rfl<|agb rfl rfl rfl<|pq<|W.seq<|W.seq<|W.region rfl<|qm rfl rfl rfl ?_
 refine cp (fun h' hE hL=>ak9 _ h' ps _ (hf.ext hE)) ?_
 refine agb rfl rfl rfl<|pq<|W.seq<|W.region rfl<|qm rfl rfl rfl ?_
 refine agW (nG rfl rfl rfl) rfl ?_
 refine pq ?_
 refine W.bC rfl (fun c9=>?_) (fun c9=>?_)
 ·refine W.seq<|W.region rfl<|qm rfl rfl rfl<|agb rfl rfl rfl<|pq<|W.ret<|aY ?_
  refine uZ ?_
  show I _=I _;congr 1;rw[akP,if_pos (by assumption)]
 ·refine W.skip<|aA<|W.seq<|W.seq<|W.region rfl<|qm rfl rfl rfl ?_
  refine cp (fun h' hE hL=>aii _ h' q 0 12) ?_
  refine KU (xU rfl rfl) (congrArg Value.bool (akO q 0 12)) rfl wn rfl rfl ?_
  refine pq ?_
  refine W.bC rfl (fun c13=>?_) (fun c13=>?_)
  ·refine W.seq<|W.region rfl<|agb rfl rfl rfl<|pq<|W.ret<|aY ?_
   refine uZ ?_
   show I _=I _;congr 1;rw[akP,if_neg (by assumption),if_pos (by assumption)]
  ·refine W.skip<|aA<|W.seq<|W.region rfl<|agb rfl rfl rfl<|pq<|W.ret ?_
   refine uZ ?_
   show I _=I _;congr 1;rw[akP,if_neg (by assumption),if_neg (by assumption)]
theorem ale{ps:List Pn}{q:Nat}(h4:ps.length≤4):bQ ps 0 q=(List.range ps.length).filter fun i=>P9 ps q i:=by
 have e:List.range 4=List.range ps.length++(List.range (4-ps.length)).map (ps.length+ ·):=by
  rw[←List.range_add];congr 1;omega
 rw[bQ,e,List.filter_append]
 have h1:((List.range (4-ps.length)).map (ps.length+ ·)).filter (fun i=>P9 ps q i&& !(0:Nat).testBit i)=[]:=by
  refine List.filter_eq_nil_iff.2 fun i hi=>?_
  obtain⟨j,-,rfl⟩:=List.mem_map.1 hi
  unfold P9
  rw[List.getElem?_eq_none (by omega)];simp
 rw[h1,List.append_nil]
 exact List.filter_congr fun i _=>by simp
end Go.aS

/- A way through the pans, as the document has it. Conditions: none; over the given program. -/
namespace Go.aS
set_option maxRecDepth 100000
set_option maxHeartbeats 4000000
end Go.aS

/- Operations that come up in any order and only add to what is owned. Conditions: none; over any program. -/
namespace Go.aS
abbrev Spc:=Nat×Nat×(Value→ah→Prop)
def waits(ops:Array Oper):Nat→Nat→Nat→Bool
 | 0,_,_=>false
 | n+1,k,b=>match ops[k]? with | some o=>o.after.any fun e=>iG e&&(Nat.beq e.on b|| waits ops n e.on b) | none=>false
structure Y4(ops:Array Oper)(listed:Nat)(B:List Nat):Prop where
 cl:Closed ops listed
 low:∀k o,ops[k]? =some o→∀e∈o.after,iG e=true→e.on<k
 or:∀k,k<ops.size→listed.testBit k=false→k∈B∨∀b∈B,waits ops 6 k b=true
 un:∀b∈B,b<ops.size∧listed.testBit b=false
 nd:B.Nodup

theorem Y4.some{ops:Array Oper}{listed:Nat}{B:List Nat}(h:Y4 ops listed B){b:Nat}(hb:b∈B):qx ops listed≠[]:=by
 have key:∀(n k:Nat),k<n→k<ops.size→listed.testBit k=false→∃i,Fq ops listed i=true:=by
  intro n
  induction n with
  | zero=>intro k hk;omega
  | succ n ih=>
   intro k hk hlt hl
   by_cases hr:Fq ops listed k=true
   ·exact⟨k,hr⟩
   ·simp only[Fq,Array.getElem?_eq_getElem hlt,hl,Bool.not_false,Bool.true_and,Array.all_eq_true_iff_forall_mem,Bool.or_eq_true,Bool.not_eq_true']at hr
    have:∃e∈(ops[k]).after,iG e=true∧listed.testBit e.on=false:=by
     refine Classical.byContradiction fun hn=>hr fun e he=>?_
     cases hbe:iG e with
     | false=>exact .inl rfl
     | true=>
      cases ht:listed.testBit e.on with
      | true=>exact .inr rfl
      | false=>exact absurd ⟨e,he,hbe,ht⟩ hn
    obtain⟨e,he,h1,h2⟩:=this
    have:=h.low k _ (Array.getElem?_eq_getElem hlt) e he h1
    exact ih e.on (by omega) (by omega) h2
 obtain⟨i,hi⟩:=key (b+1) b (by omega) (h.un b hb).1 (h.un b hb).2
 intro e
 have:=o8.2 hi
 rw[e]at this
 cases this

theorem Y4.step{ops:Array Oper}{listed j:Nat}{B1 B2:List Nat}(h:Y4 ops listed (B1++j::B2))(hj:Fq ops listed j=true):Y4 ops (listed||| 2 ^ j) (B1++B2):=by
 have hnd:j∉B1++B2:=by
  have:=(List.perm_middle (a:=j) (l₁:=B1) (l₂:=B2)).nodup_iff.1 h.nd
  exact(List.nodup_cons.1 this).1
 refine⟨h.cl.step hj,h.low,fun k hk hl=>?_,fun b hb=>?_,?_⟩
 ·rw[testBit_or,Bool.or_eq_false_iff]at hl
  have hne:j≠k:=by simpa using hl.2
  rcases h.or k hk hl.1 with h' | h'
  ·left
   rcases List.mem_append.1 h' with h' | h'
   ·exact List.mem_append_left _ h'
   ·rcases List.mem_cons.1 h' with h' | h'
    ·exact absurd h'.symm hne
    ·exact List.mem_append_right _ h'
  ·right
   intro b hb
   refine h' b ?_
   rcases List.mem_append.1 hb with hb | hb
   ·exact List.mem_append_left _ hb
   ·exact List.mem_append_right _ (List.mem_cons_of_mem _ hb)
 ·have hb':b∈B1++j::B2:=by
   rcases List.mem_append.1 hb with hb | hb
   ·exact List.mem_append_left _ hb
   ·exact List.mem_append_right _ (List.mem_cons_of_mem _ hb)
  refine⟨(h.un b hb').1,?_⟩
  rw[testBit_or,(h.un b hb').2,Bool.false_or,decide_eq_false_iff_not]
  rintro rfl
  exact hnd hb
 ·have:=(List.perm_middle (a:=j) (l₁:=B1) (l₂:=B2)).nodup_iff.1 h.nd
  exact(List.nodup_cons.1 this).2

def Adds(x:Cx)(ops:Array Oper)(ε:Ev)(s:Spc):Prop:=
 ∃o,ops[s.1]? =some o∧o.dst=some s.2.1∧d_ o.dst x.n=true∧(∀c,o.op≠ .defer c)∧o.guard=none∧∀e,Cons ε e→∀F,Dx x o e F fun v F'=>∃A Lp,Lp.Perm F'∧s.2.2 v A∧Lp=A++F

theorem Cons.back{ε:Ev}{d:Nat}{v:Value}{e:Operand→Value}(h:Cons (upd ε (some d) v) e)(hd:ε d=none):Cons ε e:=fun y u hy=>h y u (by
 cases y with
 | tmp t=>
  simp only[UK,upd]at hy⊢
  cases hb:Nat.beq t d with
  | true=>rw[Nat.eq_of_beq_eq_true hb,hd]at hy;cases hy
  | false=>exact hy
 | _=>exact hy)

section rules
variable{x:Cx}{Q:Post}{ρ:Env}{ds:List Deferred}{F:ah}{ops:Array Oper}{L:ah}{fuel listed:Nat}
theorem Adds.of{i d:Nat}{P:Value→ah→Prop}{op:Op}{ty:TypeId}{pos:String}{bK:Array Edge}(ho:cO ops.toList i=some ⟨some d,op,ty,pos,bK,none⟩)(hd:Nat.blt d x.n=true)(hn:cu op=true)(H:∀F,Ef x ρ ⟨some d,op,ty,pos,bK,none⟩ F fun v F'=>∃A,P v A∧F'=A++F):Adds x ops (look ρ) (i,d,P):=
 ⟨_,aU ho,rfl,hd,gI hn,rfl,fun e he F=>(H F e fun y v hy=>he y v (by rw[DC];exact hy)).mono fun v F' ⟨Lp,p,A,hv,e⟩=>⟨A,Lp,p,hv,e⟩⟩
theorem Adds.call{i d f:Nat}{P:Value→ah→Prop}{args:List Operand}{ts:Array TypeId}{vs:List Value}{ty:TypeId}{pos:String}{bK:Array Edge}(H:∀h',Ext x.h h'→dV x.P x.main f vs.toArray h' [] P)(ho:cO ops.toList i=some ⟨some d,.call ⟨.value (.func f),args.toArray,ts⟩,ty,pos,bK,none⟩:=by rfl)[FB x.P f](hv:evs ρ args=some vs:=by rfl)(hd:Nat.blt d x.n=true:=by rfl):Adds x ops (look ρ) (i,d,P):=
 .of ho hd rfl fun F=>lQ rfl hv (fun h' hE _=>H h' hE) fun v A' hv=>⟨A',hv,rfl⟩
end rules
end Go.aS
namespace Go.aS
section
variable{α:Type}{row:α→List Value}{w:Nat}[rw':Rw row w]
section
variable{x:Cx}{ρ:Env}{F:ah}{o:Oper}{R:Value→ah→Prop}
end
end
section
variable{x:Cx}{S:ah→Prop}{ρ:Env}{o:Oper}
end
end Go.aS
namespace Go.aS
section
variable{x:Cx}{Q:Post}{ρ:Env}{ds:List Deferred}{ops:Array Oper}{G:ah}{y₁ y₂ y₃ y₄ agp agq:Nat×Obj}{id n:Nat}
end
theorem agQ{α:Type}{l l':List α}(h:∀[DecidableEq α] (a:α),l.count a=l'.count a):l.Perm l':=by
 classical
 exact List.perm_iff_count.2 fun a=>h a
end Go.aS
namespace Go.aS
end Go.aS

/- Slices of slices; makeSlice. Conditions: none; over any program. -/
namespace Go.aS
structure Sv where
  a:Option Addr
  n:Nat
  cap:Nat
abbrev Sv.val(s:Sv):Value:=.slice s.a s.n s.cap
def ags(s:Sv):List Value:=[.slice s.a s.n s.cap]
instance:Rw ags 1:=⟨fun _=>rfl,fun _=>rfl⟩

section
variable{α:Type}{row:α→List Value}{w:Nat}[rw':Rw row w]{E:TypeId}
inductive UG(E:TypeId)(row:α→List Value)[Rw row w]:List Sv→List (List α)→ah→Prop
  | nil:UG E row [] [] []
  | cons {s:Sv} {l:List α} {A B:ah} {vs:List Sv} {ls:List (List α)}:Os E row s.val l A→UG E row vs ls B→UG E row (s::vs) (l::ls) (A++B)
theorem UG.len{vs:List Sv}{ls:List (List α)}{A:ah}(h:UG E row vs ls A):vs.length=ls.length:=by
  induction h with
  | nil=>rfl
  | cons _ _ ih=>simp[ih]
theorem UG.shut{vs:List Sv}{ls:List (List α)}{A:ah}(h:UG E row vs ls A):Shut A:=by
  induction h with
  | nil=>exact .nil
  | cons h _ ih=>exact h.shut.app ih
theorem UG.sl{vs:List Sv}{ls:List (List α)}{A:ah}{h':Hp}(h:UG E row vs ls A)(hL:∀b o,(b,o)∈A→h' b=some o):∀{k:Nat} {s:Sv} {l:List α},vs[k]? =some s→ls[k]? =some l→Sl h' row s.val l:=by
  induction h with
  | nil=>intro k s l hs;simp at hs
  | cons h1 _ ih=>
    intro k s l hs hl
    rcases k with _ | k
    · simp at hs hl;subst hs hl
      exact h1.sl fun b o hb=>hL b o (List.mem_append_left _ hb)
    · simp at hs hl
      exact ih (fun b o hb=>hL b o (List.mem_append_right _ hb)) hs hl
theorem agG{x:Cx}{c:Code}{Q:Post}{ρ:Env}{ds:List Deferred}{A F:ah}{vs:List Sv}{ls:List (List α)}(hs:UG E row vs ls A)
    (H:∀h',Ext x.h h'→(∀(k:Nat) (s:Sv) (l:List α),vs[k]? =some s→ls[k]? =some l→Sl h' row s.val l∧Zs h' s.val)→W {x with h:=h'} c Q ρ ds F):W x c Q ρ ds (A++F):=by
  induction hs generalizing x with
  | nil=>exact H x.h ⟨fun _ _ q=>q,fun _ q=>q⟩ fun k s l hk=>by simp at hk
  | cons h1 h2 ih=>
    rw[List.append_assoc]
    refine JU h1 fun h' hE hsl hz=>ih (x:={x with h:=h'}) fun h'' hE' hall=>H h'' (hE.trans hE') fun k s l hk hl=>?_
    rcases k with _ | k
    · simp at hk hl;subst hk hl
      exact⟨hsl.ext hE',hz.ext hE'⟩
    · simp at hk hl
      exact hall k s l hk hl
theorem Sv.eta{v:Value}{l:List α}{A:ah}(h:Os E row v l A):∃s:Sv,v=s.val:=by
  obtain⟨a,cap,rfl⟩:=h.dA
  exact⟨⟨a,_,cap⟩,rfl⟩
end
/-! makeSlice -/
section
variable{x:Cx}{ρ:Env}{F:ah}{o:Oper}{R:Value→ah→Prop}
theorem G8{t E by' n:Nat}{z:Value}{y y':Operand}(ho:o.op= .makeSlice t y y')[TD x.P t (.slice E)][TI x.P E 1 by' z #[z]](hy:ev ρ y=some (.int .i64 (n:Int)))(hy':ev ρ y'=some (.int .i64 (n:Int)))(hb:by'*n≤2 ^ 48∧n≤1000000)
    (K:∀β,R (.slice (some ⟨β,0,none⟩) n n) ((β,.cells (List.replicate n z).toArray E (0,0))::F)):Ef x ρ o F R:=
  Ef.xW fun e he h' hE=>by
    obtain⟨j,hj,hj1,hj2,hj3,hj4⟩:=TI.out (inferInstance:TI x.P E 1 by' z #[z])
    have hw:IntKind.i64.wrap (n:Int)=n:=nC (by omega) (by omega)
    have c1:¬((n:Int)<0):=by omega
    have c2:¬((by':Int)*(n:Int)>2 ^ 48):=by
                                                         have:((by'*n:Nat):Int)≤2 ^ 48:=by exact_mod_cast hb.1
                                                         rw[Int.natCast_mul]at this;omega
    have c3:¬((n:Int)>n):=by omega
    simp only[execOp,ho,he y _ hy,he y' _ hy',Instr.makeSlice,asInt,asIntOf,bind_eq,au,bind_assoc,bind_pure,aC,dJ hj,hj2,hw]
    simp only[c1,c2,c3,decide_false,Bool.or_false,Bool.false_eq_true,if_false]
    have room:∀{β:Type} {f:Unit→Sem β} {Q':β→ah→Prop},tr x.P h' (f ()) F Q'→tr x.P h' ((askRoom (((n:Int).toNat)*by')).bind f) F Q':=by
      intro β f Q' H
      unfold askRoom
      split
      · exact⟨rfl,H⟩
      · exact H
    refine bJ (room ?_)
    simp only[dH,Int.toNat_natCast,Nat.mul_one]
    have harr:(Array.range n).map (fun i=>(#[z]:Array Value)[i % (#[z]:Array Value).size]!)=(List.replicate n z).toArray:=by
      apply Array.ext
      · simp
      · intro i h1 h2
        simp[Nat.mod_one]
    by_cases h0:n=0
    · subst h0
      have e0:(Array.range 0).map (fun x=>(#[]:Array Value)[x % (#[]:Array Value).size]!)=(List.replicate 0 z).toArray:=by simp
      simp only[if_true,newRow,bind_eq,au,bind_assoc,bind_pure,e0]
      exact wI fun r h1 h2=>⟨_,.inl rfl,K r⟩
    · simp only[if_neg h0,fG,hj4,newRow,bind_eq,au,bind_assoc,bind_pure,harr]
      exact wI fun r h1 h2=>⟨_,.inl rfl,K r⟩
end
end Go.aS

/- Several cases of pans. Conditions: none; over the given program. -/
namespace Go.aS
set_option maxRecDepth 100000
set_option maxHeartbeats 4000000
theorem apA(main:Side)(h:Hp)(nums:List Int)(lv:Value)(b k:Nat)(s:Int)(ps:List Pn)(vp:Value)(p:Pn)(hl:Sl h fH lv nums)(hk:k≤5000)(hf:Sl h Pn.row vp ps):dV prog main aoM #[vp,p.val,bI b] h [(b,wF lv k s)]
  (fun v A=>∃(s0:Sv) (vs:List Sv) (ls:List (List Pn)) (S T:ah) (k':Nat) (s':Int),vp=s0.val∧Os aoG ags v (s0::vs) T∧UG Ag Pn.row vs ls S∧(vs.length=3∧∀l∈ls,l.length≤5)∧k'≤k+400∧Sb ((b,wF lv k' s')::T++S) A):=by
 obtain⟨a,cap,rfl⟩:=hf.dA
 refine dV.aG ao9 rfl (by show 3≤22;decide) [(0,.slice a ps.length cap),(1,p.val),(2,bI b)] ⟨rfl,rfl,rfl,trivial⟩ ?_
 refine W.seq<|W.region rfl ?_
 refine Ops.box (cs:= #[I p.lo,I p.hi,I p.sh]) (fun wC=>?_)
 refine agb rfl rfl rfl<|pq<|W.seq<|W.region rfl<|qm rfl rfl rfl ?_
 refine cg (A:=[(b,_)]) (.tail .all) (fun h' hE hL=>VT _ h' nums lv b k s 4 (hl.ext hE) (by omega) (by decide)) (fun v A' hv=>?_)
 obtain⟨l1,S1,k1,s1,hO1,⟨hl1,hck1⟩,hk1,Ym⟩:=hv
 refine Ops.sb (F':=(wC,.cells #[I p.lo,I p.hi,I p.sh] Ag (0,0))::((b,wF lv k1 s1)::S1)) (.cons Ym) ?_
 obtain⟨a1,cap1,rfl⟩:=hO1.dA
 refine qm rfl rfl rfl ?_
 refine cg (A:=[(b,_)]) (.tail .head) (fun h' hE hL=>OA _ h' nums lv b k1 s1 3 (hl.ext hE) (by omega) (by decide)) (fun v A' hv=>?_)
 obtain⟨l2,S2,k2,s2,hO2,⟨hl2,ar9⟩,hk2,Oh⟩:=hv
 refine Ops.sb (F':=(wC,.cells #[I p.lo,I p.hi,I p.sh] Ag (0,0))::((b,wF lv k2 s2)::(S2++S1))) (.cons (Oh.app .refl)) ?_
 obtain⟨a2,cap2,rfl⟩:=hO2.dA
 refine agb rfl rfl rfl<|agb rfl rfl rfl<|pq<|W.seq ?_
 refine W.mono (Q:=(fun e ρ' ds' F'=>e= .normal∧ds'=[]∧∃β w3 S3,Os Ag Pn.row (Sv.val w3) (l2++[p]) S3∧Sub [(6,.slice (some ⟨β,0,none⟩) 4 4)] ρ'∧
   Sb ((β,.cells #[.slice a ps.length cap,.slice a1 l1.length cap1,.slice a2 l2.length cap2,w3.val] aoG (0,0))::(S3++((b,wF lv k2 s2)::(S2++S1)))) F')) ?_ ?_
 ·refine W.DR [(wC,.cells #[I p.lo,I p.hi,I p.sh] Ag (0,0))] (n:=10) rfl ?_
  refine xq 0 (aN rfl rfl) rfl ?_
  refine xq 1 (aN rfl rfl) rfl ?_
  refine xq 2 (aN rfl rfl) rfl ?_
  refine xq 3 (aN rfl rfl) rfl ?_
  first | refine xq 5 (Bf rfl rfl) rfl ?_ | refine xq 5 (zi rfl rfl) rfl ?_
  have hdup:∀{h':Hp},Sl h' Pn.row (.slice a2 l2.length cap2) l2→dV prog main ag_ #[.slice a2 l2.length cap2] h' [] (fun v A=>∃S,Os Ag Pn.row v l2 S∧Sb S A):=fun hs=>aij _ _ l2 _ hs (by omega)
  refine Any.WB (i:=4) (j:=6) (by kernel_rfl) (aU rfl) (aU rfl) an an rfl rfl rfl rfl ?_ ?_
  ·refine QZ (args:=[_]) (A:=[]) rfl rfl (Seg.head (A:=[])) (fun h' hE hL=>hdup (hO2.sl fun b' o hb=>hL b' o (List.mem_cons_of_mem _ (List.mem_cons_of_mem _ (List.mem_append_left _ hb))))) (fun v A' hv=>?_)
   obtain⟨S3,hO3,afy⟩:=hv
   refine⟨.inr (.one (List.mem_append_right _ (.head _)) .nil),Any.sb (afy.app .refl) ?_⟩
   refine abl (i:=6) (cs:= #[I p.lo,I p.hi,I p.sh]) (fun akT=>?_) rfl (hk:=(.one (List.mem_append_right _ (.head _)) .nil)) (hf:=by kernel_rfl)
   refine ae (i:=7) rfl an rfl rfl (iW (row:=Pn.row) (l':=[p]) rfl rfl rfl hO3 (.tail .head) (fun h2 _ hl=>Sl.mk (hl akT _ (.head _)) rfl (Part.all (flat Pn.row [p]))) (by simp;omega) (by decide) rfl (fun v' S' Ie=>?_))
   refine⟨.inr (.one (.tail _ (List.mem_append_right _ (.head _))) .nil),?_⟩
   obtain⟨w3,rfl⟩:=Sv.eta Ie
   refine abl (i:=8) (cs:= #[.slice a ps.length cap,.slice a1 l1.length cap1,.slice a2 l2.length cap2,w3.val]) (fun aqf=>?_) rfl (hk:=(.one (.tail _ (List.mem_append_right _ (.head _))) .nil)) (hf:=by kernel_rfl)
   refine xq 9 (jS rfl rfl) rfl ?_ (hS:=(.one (.tail _ (.tail _ (List.mem_append_right _ (.head _)))) .nil))
   refine az ?_
   exact⟨rfl,rfl,aqf,w3,S',Ie,⟨rfl,trivial⟩,.cons (.skip rfl (.app .refl (.skip rfl .refl)))⟩
  ·refine DN (parts:=[⟨_,_⟩]) (cs:= #[I p.lo,I p.hi,I p.sh]) rfl rfl (by decide) (by decide) (by kernel_rfl) fun akT _ _=>⟨.inr (.one (.tail _ (.head _)) .nil),?_⟩
   refine ae (i:=4) rfl an rfl rfl (QZ (args:=[_]) (A:=[]) rfl rfl (Seg.head (A:=[])) (fun h' hE hL=>hdup (hO2.sl fun b' o hb=>hL b' o (List.mem_cons_of_mem _ (List.mem_cons_of_mem _ (List.mem_cons_of_mem _ (List.mem_append_left _ hb)))))) (fun v A' hv=>?_))
   obtain⟨S3,hO3,afy⟩:=hv
   refine⟨.inr (.one (List.mem_append_right _ (.tail _ (.head _))) .nil),Any.sb (afy.app .refl) ?_⟩
   refine ae (i:=7) rfl an rfl rfl (iW (row:=Pn.row) (l':=[p]) rfl rfl rfl hO3 .head (fun h2 _ hl=>Sl.mk (hl akT _ (.head _)) rfl (Part.all (flat Pn.row [p]))) (by simp;omega) (by decide) rfl (fun v' S' Ie=>?_))
   refine⟨.inr (.one (List.mem_append_right _ (.tail _ (.head _))) .nil),?_⟩
   obtain⟨w3,rfl⟩:=Sv.eta Ie
   refine abl (i:=8) (cs:= #[.slice a ps.length cap,.slice a1 l1.length cap1,.slice a2 l2.length cap2,w3.val]) (fun aqf=>?_) rfl (hk:=(.one (List.mem_append_right _ (.tail _ (.head _))) .nil)) (hf:=by kernel_rfl)
   refine xq 9 (jS rfl rfl) rfl ?_ (hS:=(.one (.tail _ (List.mem_append_right _ (.tail _ (.head _)))) .nil))
   refine az ?_
   exact⟨rfl,rfl,aqf,w3,S',Ie,⟨rfl,trivial⟩,.cons (.app .refl (.skip rfl (.skip rfl .refl)))⟩
 rintro e ρ' ds' F' ⟨rfl,rfl,β,w3,S3,hO3,hE3,afy⟩
 refine aA (W.env hE3 (W.sb afy ?_))
 refine W.ret ?_
 refine mg (vs:=[_]) ⟨⟨a,ps.length,cap⟩,[⟨a1,l1.length,cap1⟩,⟨a2,l2.length,cap2⟩,w3],[l1,l2,l2++[p]],S1++(S2++(S3++[])),[(β,.cells #[.slice a ps.length cap,.slice a1 l1.length cap1,.slice a2 l2.length cap2,w3.val] aoG (0,0))],k2,s2,rfl,?_,.cons hO1 (.cons hO2 (.cons hO3 .nil)),⟨rfl,?_⟩,by omega,?_⟩
 ·exact .inr ⟨β,_,4,[],rfl,rfl,rfl,Nat.le_refl _,Part.all (flat ags [⟨a,ps.length,cap⟩,⟨a1,l1.length,cap1⟩,⟨a2,l2.length,cap2⟩,w3]),.nil⟩
 ·intro l hl
  simp only[List.mem_cons,List.not_mem_nil,or_false]at hl
  rcases hl with rfl | rfl | rfl
  ·omega
  ·omega
  ·simp;omega
 ·refine .dF (agQ fun y=>?_)
  simp only[List.count_append,List.count_cons,List.count_nil];omega
end Go.aS

/- What is reached in so many steps, as the laws find it. Conditions: none; no program in sight. -/
namespace Go.aS
set_option linter.unusedVariables false
theorem YU{ps:List Pn}{q o:Nat}{v:List Nat}(hq:q<13)(h:qJ (dO ps 0) q v o):o<13:=by
 rcases List.eq_nil_or_concat v with rfl | ⟨r,p,rfl⟩
 ·have:q=o:=h
  omega
 ·rw[List.concat_eq_append]at h
  obtain⟨m,_,h6⟩:=lW.1 h
  exact F9 _ _ _ h6
end Go.aS

/- Sets of qualities, as the laws keep them. Conditions: none; over the given program. -/
namespace Go.aS
set_option maxRecDepth 100000
set_option maxHeartbeats 4000000
abbrev V9(β:Nat):Value:=.slice (some ⟨β,0,none⟩) 13 13
abbrev bsO(f:Nat→Bool):Obj:=.cells (bA f) RS (0,0)
theorem QI:(List.replicate 13 (Value.bool false)).toArray=bA fun _=>false:=rfl
end Go.aS

/- Layers: from where the goal is reached in n pans, one pan left out. Conditions: none. -/
namespace Go.aS
def apy(ps:List Pn)(w:Int)(S:Nat→Bool):Nat→Nat→Bool
 | 0,q=>S q
 | n+1,q=>(List.range ps.length).any fun i=>decide ((i:Int)≠w)&&P9 ps q i&&apy ps w S n (gy ps i q)
def aqC(ps:List Pn)(w:Int)(S:Nat→Bool)(n q i:Nat):Bool:=(List.range i).any fun i=>decide ((i:Int)≠w)&&P9 ps q i&&apy ps w S n (gy ps i q)
def apZ(ps:List Pn)(w:Int)(S:Nat→Bool)(n q i k:Nat):Bool:=if k<q then apy ps w S (n+1) k else if k=q then aqC ps w S n q i else false
theorem apN{ps:List Pn}{w:Int}{S:Nat→Bool}{n q i:Nat}:aqC ps w S n q (i+1)=(aqC ps w S n q i|| (decide ((i:Int)≠w)&&P9 ps q i&&apy ps w S n (gy ps i q))):=by
 simp[aqC,List.range_succ,List.any_append]
theorem aq9{ps:List Pn}{w:Int}{S:Nat→Bool}{n q:Nat}:aqC ps w S n q ps.length=apy ps w S (n+1) q:=rfl
theorem ap4{ps:List Pn}{w:Int}{S:Nat→Bool}{n q i:Nat}:apZ ps w S n q i q=aqC ps w S n q i:=by simp[apZ]
theorem ap1{ps:List Pn}{w:Int}{S:Nat→Bool}{n q i:Nat}{b:Bool}(hb:b=aqC ps w S n q (i+1))(k:Nat):(if k=q then b else apZ ps w S n q i k)=apZ ps w S n q (i+1) k:=by
 unfold apZ
 by_cases h1:k=q
 ·subst h1;simp[hb]
 ·simp[h1]
theorem aqw{ps:List Pn}{w:Int}{S:Nat→Bool}{n q:Nat}(k:Nat):apZ ps w S n q ps.length k=apZ ps w S n (q+1) 0 k:=by
 unfold apZ
 by_cases h1:k<q
 ·simp[h1,Nat.lt_succ_of_lt h1]
 ·by_cases h2:k=q
  ·subst h2;simp[aq9]
  ·rw[if_neg h1,if_neg h2,if_neg (by omega)]
   by_cases h3:k=q+1
   ·subst h3;simp[aqC]
   ·rw[if_neg h3]
theorem aqx{ps:List Pn}{w:Int}{S:Nat→Bool}{n:Nat}(k:Nat):apZ ps w S n 0 0 k=false:=by
 unfold apZ
 by_cases h2:k=0
 ·subst h2;simp[aqC]
 ·simp[h2]
theorem aqy{ps:List Pn}{w:Int}{S:Nat→Bool}{n k:Nat}(hk:k<13):apZ ps w S n 13 0 k=apy ps w S (n+1) k:=by simp[apZ,hk]
theorem ap2{ps:List Pn}(h4:ps.length≤4){S:Nat→Bool}:∀{n q:Nat},apy ps (-1) S n q=P7 (dO ps 0) S n q
 | 0,q=>rfl
 | n+1,q=>by
  have e:P7 (dO ps 0) S (n+1) q=(dO ps 0 q).any fun po=>P7 (dO ps 0) S n po.2:=rfl
  rw[e,apy,dO,List.any_map,Bool.eq_iff_iff,List.any_eq_true,List.any_eq_true]
  constructor
  ·rintro⟨i,hi,hx⟩
   simp only[Bool.and_eq_true]at hx
   refine⟨i,?_,?_⟩
   ·simp only[bQ,List.mem_filter,List.mem_range]at hi⊢
    exact⟨by omega,by simp[hx.1.2]⟩
   ·have:=hx.2;rw[ap2 h4]at this;exact this
  ·rintro⟨i,hi,hx⟩
   simp only[bQ,List.mem_filter,List.mem_range,Bool.and_eq_true]at hi
   have hil:i<ps.length:=by
    rcases Nat.lt_or_ge i ps.length with h | h
    ·exact h
    ·have:=hi.2.1;unfold P9 at this;rw[List.getElem?_eq_none h]at this;cases this
   refine⟨i,List.mem_range.2 hil,?_⟩
   simp only[Bool.and_eq_true]
   refine⟨⟨decide_eq_true (by omega),hi.2.1⟩,?_⟩
   rw[ap2 h4];exact hx
end Go.aS

/- Where pans lead for ever, as the document has it. Conditions: none; over the given program. -/
namespace Go.aS
set_option maxRecDepth 100000
set_option maxHeartbeats 4000000
def apM(ps:List Pn)(k:Int)(q:Nat):Bool:=if 0≤k then decide ((q:Int)=k)else dY ps q
theorem aq_(main:Side)(h:Hp)(ps:List Pn)(vp:Value)(k:Int)(q:Nat)(hf:Sl h Pn.row vp ps)(hn:ps.length≤1000):Pu prog main aqa #[vp,.agg #[I k],I q] h (.bool (apM ps k q)):=by
 obtain⟨a,cap,rfl⟩:=hf.dA
 refine dV.aG aqA rfl (by show 3≤17;decide) [(0,.slice a ps.length cap),(1,.agg #[I k]),(2,I q)] ⟨rfl,rfl,rfl,trivial⟩ ?_
 refine W.seq<|W.region rfl ?_
 refine Ops.box (cs:= #[I k]) (fun wC=>?_)
 refine agb rfl rfl rfl<|pq<|W.seq<|W.seq<|W.region rfl ?_
 refine agY rfl ?_
 refine agX rfl ?_
 refine agW (IJ rfl rfl rfl) rfl ?_
 refine pq ?_
 refine W.bC rfl (fun c9=>?_) (fun c9=>?_)
 ·have hk:0≤k:=by omega
  refine W.seq<|W.region rfl<|qm rfl rfl rfl ?_
  refine agY rfl ?_
  refine agX rfl ?_
  refine agW (nD rfl rfl rfl) rfl ?_
  refine agb rfl rfl rfl<|pq<|W.ret<|aY ?_
  refine uZ ?_
  rw[apM,if_pos hk] <;>rfl
 ·have hk:¬0≤k:=by omega
  refine W.skip<|aA<|W.seq<|W.region rfl<|qm rfl rfl rfl<|qm rfl rfl rfl ?_
  refine cp (fun h' hE hL=>ah6 _ h' ps _ q (hf.ext hE) hn) ?_
  refine agb rfl rfl rfl<|pq<|W.ret ?_
  refine uZ ?_
  rw[apM,if_neg hk] <;>rfl
theorem aqY(main:Side)(h:Hp)(ps:List Pn)(vp:Value)(hf:Sl h Pn.row vp ps)(hok:iP ps):dV prog main ap6 #[vp] h [] (fun v A=>∃β,v=V9 β∧Sb [(β,bsO (apy ps (-1) (fun _=>true) 13))] A):=by
 obtain⟨a,cap,rfl⟩:=hf.dA
 have h4:=hok.len
 refine dV.aG aqm rfl (by show 1≤60;decide) [(0,.slice a ps.length cap)] ⟨rfl,trivial⟩ ?_
 refine W.seq<|W.region rfl<|agb rfl rfl rfl<|pq<|W.seq<|W.region rfl ?_
 refine oe rfl wn rfl rfl (G8 (n:=13) rfl rfl rfl (by decide) (fun uU=>?_))
 rw[QI]
 refine agb rfl rfl rfl<|pq<|W.seq<|W.seq<|W.region rfl<|agb rfl rfl rfl<|pq<|W.block ?_
 refine W.loop (σ:=Nat) (fun q=>q≤13) (fun q=>[(4,I q),(3,V9 uU),(0,.slice a ps.length cap)]) (fun q=>[(uU,bsO fun k=>decide (k<q))]) (fun q=>13-q) 0 (Nat.zero_le _) ⟨rfl,rfl,rfl,trivial⟩ (.eq (eqc (qg fun i _=>by simp))) ?_
 rintro q hq
 refine W.seq<|W.seq<|W.region rfl<|qm rfl rfl rfl ?_
 refine agW (Lr rfl rfl rfl) rfl ?_
 refine pq ?_
 refine W.bC rfl (fun c11=>?_) (fun c11=>?_)
 ·have Dn:q<13:=by omega
  have hsz:0+q*1<(bA fun k=>decide (k<q)).size:=by rw[nX];omega
  refine W.skip<|aA<|W.seq<|W.block<|W.region rfl<|qm rfl rfl rfl<|qm rfl rfl rfl ?_
  refine ag3 rfl ?_
  refine Ops.yG ?_
  refine Ops.nil<|dI<|aA<|W.region rfl<|qm rfl rfl rfl ?_
  refine ag1 rfl ?_
  refine agb rfl rfl rfl<|pq ?_
  refine⟨rfl,q+1,Dn,by omega,⟨rfl,rfl,rfl,trivial⟩,.eq ?_⟩
  rw[show 0+q*1=q by omega,Og Dn]
  refine eqc (qg fun i _=>?_)
  by_cases h1:i=q
  ·subst h1;simp
  ·rw[if_neg h1];exact decide_eq_decide.2 (by omega)
 ·obtain rfl:q=13:=by omega
  refine W.exit<|bP<|bP<|gG<|aA<|W.seq<|W.seq<|W.region rfl<|agb rfl rfl rfl<|Ops.nil ?_
  refine aA<|W.block ?_
  refine W.aa1 (fun(n:Nat) (βn:Nat)=>n≤13) (fun n βn=>[(5,I n),(3,V9 βn),(0,.slice a ps.length cap)]) (fun n βn=>[(βn,bsO (apy ps (-1) (fun _=>true) n))]) (fun n _=>13-n) 0 uU (Nat.zero_le _) ⟨rfl,rfl,rfl,trivial⟩ (.eq (eqc (qg fun i hi=>by simp[apy,hi]))) ?_
  rintro n βn hn
  refine W.seq<|W.seq<|W.region rfl<|qm rfl rfl rfl ?_
  refine agW (Lr rfl rfl rfl) rfl ?_
  refine pq ?_
  refine W.bC rfl (fun c18=>?_) (fun c18=>?_)
  ·have apP:n<13:=by omega
   refine W.skip<|aA<|W.seq<|W.block<|W.seq<|W.region rfl ?_
   refine oe rfl wn rfl rfl (G8 (n:=13) rfl rfl rfl (by decide) (fun yC=>?_))
   rw[QI]
   refine agb rfl rfl rfl<|pq<|W.seq<|W.seq<|W.region rfl<|agb rfl rfl rfl<|pq<|W.block ?_
   refine W.loop (σ:=Nat) (fun q=>q≤13) (fun q=>[(7,I q),(6,V9 yC),(5,I n),(3,V9 βn),(0,.slice a ps.length cap)]) (fun q=>[(yC,bsO (apZ ps (-1) (fun _=>true) n q 0)),(βn,bsO (apy ps (-1) (fun _=>true) n))]) (fun q=>13-q) 0 (Nat.zero_le _) ⟨rfl,rfl,rfl,rfl,rfl,trivial⟩ (.eq (eqc (qg fun i _=>aqx i))) ?_
   rintro q hq
   refine W.seq<|W.seq<|W.region rfl<|qm rfl rfl rfl ?_
   refine agW (Lr rfl rfl rfl) rfl ?_
   refine pq ?_
   refine W.bC rfl (fun c23=>?_) (fun c23=>?_)
   ·have Dn:q<13:=by omega
    refine W.skip<|aA<|W.seq<|W.block<|W.seq<|W.region rfl<|agb rfl rfl rfl<|pq<|W.block ?_
    refine W.loop (σ:=Nat) (fun i=>i≤ps.length) (fun i=>[(8,I i),(7,I q),(6,V9 yC),(5,I n),(3,V9 βn),(0,.slice a ps.length cap)]) (fun i=>[(yC,bsO (apZ ps (-1) (fun _=>true) n q i)),(βn,bsO (apy ps (-1) (fun _=>true) n))]) (fun i=>ps.length-i) 0 (Nat.zero_le _) ⟨rfl,rfl,rfl,rfl,rfl,rfl,trivial⟩ .refl ?_
    rintro i hi
    refine W.seq<|W.seq<|W.region rfl<|qm rfl rfl rfl<|qm rfl rfl rfl ?_
    refine agW (dM rfl rfl) rfl ?_
    refine agW (fO rfl rfl rfl) rfl ?_
    refine pq ?_
    refine W.bC rfl (fun c29=>?_) (fun c29=>?_)
    ·have hil:i<ps.length:=by omega
     obtain⟨p,hp,-⟩:=has hil
     have hpi:=hok.pan p (List.mem_of_getElem? hp)
     obtain⟨b,off,c,E2,fz,hv,hbb,hx,hy,hz⟩:=hf.at hp
     cases hv
     have hx':c.extract (off+i*3) (off+i*3+3)= #[I p.lo,I p.hi,I p.sh]:=hx
     clear hx hz
     have hta:P9 ps q i=p.takes q:=by unfold P9;rw[hp]
     have hou:=Vl (q:=q) hp
     have SH:gy ps i q<13:=AZ
     have hg1:(bA (apZ ps (-1) (fun _=>true) n q i))[0+q*1]? =some (.bool (apZ ps (-1) (fun _=>true) n q i q)):=by rw[show 0+q*1=q by omega];exact L9 Dn
     have hg2:(bA (apy ps (-1) (fun _=>true) n))[0+gy ps i q*1]? =some (.bool (apy ps (-1) (fun _=>true) n (gy ps i q))):=by rw[show 0+gy ps i q*1=gy ps i q by omega];exact L9 SH
     have hsz:0+q*1<(bA (apZ ps (-1) (fun _=>true) n q i)).size:=by rw[nX];omega
     have hw1:((i:Int)≠-1):=by omega
     refine W.skip<|aA<|W.seq<|W.block<|W.region rfl<|qm rfl rfl rfl<|qm rfl rfl rfl<|qm rfl rfl rfl<|qm rfl rfl rfl ?_
     refine ag3 rfl ?_
     refine agX rfl ?_
     refine qm rfl rfl rfl ?_
     refine Ops.RV (fun asj=>?_) (fun asj=>?_)
     ·refine Ops.no ?_
      refine Ops.no ?_
      refine Ops.no ?_
      refine Ops.no ?_
      refine Ops.no ?_
      refine Ops.no ?_
      refine Ops.no ?_
      refine Ops.noU ?_
      refine Ops.noU ?_
      refine Ops.noU ?_
      refine Ops.noU ?_
      refine Ops.noU ?_
      refine Ops.noU ?_
      refine Ops.noU ?_
      refine Ops.noU ?_
      refine Ops.noU ?_
      refine Ops.no ?_
      refine agW (dG rfl rfl rfl) rfl ?_
      refine ag3 rfl ?_
      refine Ops.yG ?_
      refine Ops.nil<|dI<|aA<|W.region rfl<|qm rfl rfl rfl ?_
      refine ag1 rfl ?_
      refine agb rfl rfl rfl<|pq ?_
      refine⟨rfl,i+1,hil,by omega,⟨rfl,rfl,rfl,rfl,rfl,rfl,trivial⟩,.eq ?_⟩
      rw[show 0+q*1=q by omega,Og Dn]
      refine eqc (qg fun k _=>(ap1 ?_ k).symm)
      rw[apN,hta,←ap4]
      simp[*]
     ·refine oq (aN rfl rfl) rfl (ak rfl rfl rfl) rfl rfl ?_
      refine oq (aN rfl rfl) rfl (ak rfl rfl rfl) rfl rfl ?_
      first | refine oq (G_ rfl rfl rfl) rfl (ak rfl rfl rfl) rfl rfl ?_ | refine oq (o_ rfl rfl rfl) rfl (ak rfl rfl rfl) rfl rfl ?_
      first | refine oq (Bf rfl rfl) rfl (ak rfl rfl rfl) rfl rfl ?_ | refine oq (zi rfl rfl) rfl (ak rfl rfl rfl) rfl rfl ?_
      refine oq (aN rfl rfl) rfl (ak rfl rfl rfl) rfl rfl ?_
      refine cp (g:=some _) (fun h' hE hL=>aik _ h' p q) ?_
      refine oq (aN rfl rfl) rfl (ak rfl rfl rfl) rfl rfl ?_
      refine Ops.RV (fun arN=>?_) (fun arN=>?_)
      ·refine oq (aN rfl rfl) rfl (ak rfl rfl rfl) rfl rfl ?_
       refine oq (aN rfl rfl) rfl (ak rfl rfl rfl) rfl rfl ?_
       refine oq (aN rfl rfl) rfl (ak rfl rfl rfl) rfl rfl ?_
       first | refine oq (G_ rfl rfl rfl) rfl (ak rfl rfl rfl) rfl rfl ?_ | refine oq (o_ rfl rfl rfl) rfl (ak rfl rfl rfl) rfl rfl ?_
       first | refine oq (Bf rfl rfl) rfl (ak rfl rfl rfl) rfl rfl ?_ | refine oq (zi rfl rfl) rfl (ak rfl rfl rfl) rfl rfl ?_
       refine oq (aN rfl rfl) rfl (ak rfl rfl rfl) rfl rfl ?_
       refine cp (g:=some _) (fun h' hE hL=>ab_ _ h' p q ⟨by omega,by omega⟩ ⟨by omega,by omega⟩) ?_
       rw[←hou]
       first | refine oq (G_ rfl rfl rfl) rfl (ak rfl rfl rfl) rfl rfl ?_ | refine oq (o_ rfl rfl rfl) rfl (ak rfl rfl rfl) rfl rfl ?_
       refine oq (iQ rfl rfl) rfl (ak rfl rfl rfl) rfl rfl ?_
       refine oq (dG rfl rfl rfl) rfl (ak rfl rfl rfl) rfl rfl ?_
       refine agW (iH rfl rfl rfl) rfl ?_
       refine ag3 rfl ?_
       refine Ops.yG ?_
       refine Ops.nil<|dI<|aA<|W.region rfl<|qm rfl rfl rfl ?_
       refine ag1 rfl ?_
       refine agb rfl rfl rfl<|pq ?_
       refine⟨rfl,i+1,hil,by omega,⟨rfl,rfl,rfl,rfl,rfl,rfl,trivial⟩,.eq ?_⟩
       rw[show 0+q*1=q by omega,Og Dn]
       refine eqc (qg fun k _=>(ap1 ?_ k).symm)
       rw[apN,hta,←ap4]
       simp[*]
      ·refine Ops.no ?_
       refine Ops.no ?_
       refine Ops.no ?_
       refine Ops.no ?_
       refine Ops.no ?_
       refine Ops.no ?_
       refine Ops.no ?_
       refine Ops.no ?_
       refine Ops.no ?_
       refine oq (iH rfl rfl rfl) rfl (ak rfl rfl rfl) rfl rfl ?_
       refine agW (iH rfl rfl rfl) rfl ?_
       refine ag3 rfl ?_
       refine Ops.yG ?_
       refine Ops.nil<|dI<|aA<|W.region rfl<|qm rfl rfl rfl ?_
       refine ag1 rfl ?_
       refine agb rfl rfl rfl<|pq ?_
       refine⟨rfl,i+1,hil,by omega,⟨rfl,rfl,rfl,rfl,rfl,rfl,trivial⟩,.eq ?_⟩
       rw[show 0+q*1=q by omega,Og Dn]
       refine eqc (qg fun k _=>(ap1 ?_ k).symm)
       rw[apN,hta,←ap4]
       simp[*]
    ·obtain rfl:i=ps.length:=by omega
     refine W.exit<|bP<|bP<|gG<|dI<|aA<|W.region rfl<|qm rfl rfl rfl ?_
     refine ag1 rfl ?_
     refine agb rfl rfl rfl<|pq ?_
     exact⟨rfl,q+1,Dn,by omega,⟨rfl,rfl,rfl,rfl,rfl,trivial⟩,.eq (eqc (qg fun k _=>(aqw k).symm))⟩
   ·obtain rfl:q=13:=by omega
    refine W.exit<|bP<|bP<|gG<|aA<|W.region rfl<|qm rfl rfl rfl<|agb rfl rfl rfl<|Ops.nil<|dI ?_
    refine aA<|W.region rfl<|qm rfl rfl rfl ?_
    refine ag1 rfl ?_
    refine agb rfl rfl rfl<|pq ?_
    exact⟨rfl,n+1,yC,by omega,by omega,⟨rfl,rfl,rfl,trivial⟩,.trans (.eq (eqc (qg fun k hk=>(aqy hk).symm))) (.right (.refl (A:=[_])) (.cons rfl .nil))⟩
  ·obtain rfl:n=13:=by omega
   refine W.exit<|bP<|bP<|gG<|aA<|W.seq<|W.region rfl<|qm rfl rfl rfl<|agb rfl rfl rfl<|Ops.nil ?_
   refine aA<|W.ret ?_
   exact mg (vs:=[_]) ⟨βn,rfl,.refl⟩
end Go.aS

/- Layers, as the document has them. Conditions: none; over the given program. -/
namespace Go.aS
set_option maxRecDepth 100000
set_option maxHeartbeats 4000000
abbrev svB(β:Nat):Sv:=⟨some ⟨β,0,none⟩,13,13⟩
def aqI(ps:List Pn)(w:Int)(S:Nat→Bool)(vs:List Sv)(n:Nat)(A:ah):Prop:=Shut A∧∀k,k<n→∃β,vs[k]? =some (svB β)∧(β,bsO (apy ps w S k))∈A
theorem aqI.next{ps:List Pn}{w:Int}{S:Nat→Bool}{vs:List Sv}{n β:Nat}{A:ah}{s:Sv}(h:aqI ps w S vs n A)(hs:vs[n]? =some (svB β)):aqI ps w S (vs++[s]) (n+1) ((β,bsO (apy ps w S n))::A):=by
 refine⟨.cons rfl h.1,fun k hk=>?_⟩
 have app:∀{k:Nat} {x:Sv},vs[k]? =some x→(vs++[s])[k]? =some x:=fun{k x} hx=>by
  rw[List.getElem?_append_left (List.getElem?_eq_some_iff.1 hx).1];exact hx
 rcases Nat.lt_or_ge k n with h1 | h1
 ·obtain⟨β',hb,hm⟩:=h.2 k h1
  exact⟨β',app hb,.tail _ hm⟩
 ·obtain rfl:k=n:=by omega
  exact⟨β,app hs,.head _⟩
theorem aqI.fin{ps:List Pn}{w:Int}{S:Nat→Bool}{vs:List Sv}{n β:Nat}{A:ah}(h:aqI ps w S vs n A)(hs:vs[n]? =some (svB β)):aqI ps w S vs (n+1) ((β,bsO (apy ps w S n))::A):=by
 refine⟨.cons rfl h.1,fun k hk=>?_⟩
 rcases Nat.lt_or_ge k n with h1 | h1
 ·obtain⟨β',hb,hm⟩:=h.2 k h1
  exact⟨β',hb,.tail _ hm⟩
 ·obtain rfl:k=n:=by omega
  exact⟨β,hs,.head _⟩
theorem aq0(main:Side)(h:Hp)(ps:List Pn)(vp:Value)(w k:Int)(hf:Sl h Pn.row vp ps)(hok:iP ps):dV prog main ap7 #[vp,I w,.agg #[I k]] h [] (fun v A=>∃vs SL Fo,Os apY ags v vs SL∧vs.length=14∧aqI ps w (apM ps k) vs 14 Fo∧Sb (SL++Fo) A):=by
 obtain⟨a,cap,rfl⟩:=hf.dA
 have h4:=hok.len
 refine dV.aG aqv rfl (by show 3≤83;decide) [(0,.slice a ps.length cap),(1,I w),(2,.agg #[I k])] ⟨rfl,rfl,rfl,trivial⟩ ?_
 refine W.seq<|W.region rfl ?_
 refine Ops.box (cs:= #[I k]) (fun mZ=>?_)
 refine agb rfl rfl rfl<|pq<|W.seq<|W.region rfl ?_
 refine oe rfl wn rfl rfl (G8 (n:=13) rfl rfl rfl (by decide) (fun Vo=>?_))
 rw[QI]
 refine agb rfl rfl rfl<|pq<|W.seq<|W.seq<|W.region rfl<|agb rfl rfl rfl<|pq<|W.block ?_
 refine W.loop (σ:=Nat) (fun q=>q≤13) (fun q=>[(8,I q),(7,V9 Vo),(5,bI mZ),(0,.slice a ps.length cap),(1,I w)]) (fun q=>[(Vo,bsO fun e=>decide (e<q)&&apM ps k e),(mZ,.cells #[I k] ap5 (0,0))]) (fun q=>13-q) 0 (Nat.zero_le _) ⟨rfl,rfl,rfl,rfl,rfl,trivial⟩ (.eq (eqc (qg fun i _=>by simp))) ?_
 rintro q hq
 refine W.seq<|W.seq<|W.region rfl<|qm rfl rfl rfl ?_
 refine agW (Lr rfl rfl rfl) rfl ?_
 refine pq ?_
 refine W.bC rfl (fun c16=>?_) (fun c16=>?_)
 ·have Dn:q<13:=by omega
  have hsz:0+q*1<(bA fun e=>decide (e<q)&&apM ps k e).size:=by rw[nX];omega
  refine W.skip<|aA<|W.seq<|W.block<|W.region rfl<|qm rfl rfl rfl<|qm rfl rfl rfl<|qm rfl rfl rfl ?_
  refine ag2 rfl ?_
  refine qm rfl rfl rfl ?_
  refine cp (fun h' hE hL=>aq_ _ h' ps _ k q (hf.ext hE) (by omega)) ?_
  refine ag3 rfl ?_
  refine Ops.yG ?_
  refine Ops.nil<|dI<|aA<|W.region rfl<|qm rfl rfl rfl ?_
  refine ag1 rfl ?_
  refine agb rfl rfl rfl<|pq ?_
  refine⟨rfl,q+1,Dn,by omega,⟨rfl,rfl,rfl,rfl,rfl,trivial⟩,.eq ?_⟩
  rw[show 0+q*1=q by omega,Og Dn]
  refine eqc (qg fun i _=>?_)
  by_cases h1:i=q
  ·subst h1;simp
  ·rw[if_neg h1,show decide (i<q+1)=decide (i<q)from decide_eq_decide.2 (by omega)]
 ·obtain rfl:q=13:=by omega
  refine W.exit<|bP<|bP<|gG<|aA<|W.seq<|W.region rfl<|qm rfl rfl rfl ?_
  refine Ops.NK (cs:= #[V9 Vo]) (fun arO=>?_) rfl
  refine agb rfl rfl rfl<|pq<|W.seq<|W.seq<|W.region rfl<|agb rfl rfl rfl<|pq<|W.block ?_
  refine W.aa1 (σ:=Nat) (τ:=Nat×List Sv×Value×ah×ah) (fun m t=>m≤13∧t.2.1.length=m+1∧t.2.1[m]? =some (svB t.1)∧Os apY ags t.2.2.1 t.2.1 t.2.2.2.1∧aqI ps w (apM ps k) t.2.1 m t.2.2.2.2) (fun m t=>[(10,I (m+1:Nat)),(9,t.2.2.1),(0,.slice a ps.length cap),(1,I w)])
   (fun m t=>(t.1,bsO (apy ps w (apM ps k) m))::(t.2.2.2.1++t.2.2.2.2)) (fun m _=>13-m) 0 (Vo,[svB Vo],.slice (some ⟨arO,0,none⟩) 1 1,[(arO,.cells #[V9 Vo] apY (0,0))],[])
   ⟨Nat.zero_le _,rfl,rfl,.inr ⟨arO,_,1,[],rfl,rfl,rfl,Nat.le_refl _,Part.all (flat ags [svB Vo]),.nil⟩,.nil,fun k hk=>by omega⟩ ⟨rfl,rfl,rfl,rfl,trivial⟩ (.trans (.eq (eqc (qg fun i hi=>by simp[apy,hi]))) (.trans (.dF (List.Perm.swap ..)) (.cons (.cons (.nil (.cons rfl .nil)))))) ?_
  rintro m ⟨βp,vs,v,SL,Fo⟩ ⟨hm,hvl,hvm,hOs,hLA⟩
  dsimp only at*
  refine W.seq<|W.seq<|W.region rfl<|qm rfl rfl rfl ?_
  refine agW (Lr rfl rfl rfl) rfl ?_
  refine pq ?_
  refine W.bC rfl (fun c29=>?_) (fun c29=>?_)
  ·have am7:m<13:=by omega
   rcases id hOs with⟨he,-⟩ | ⟨βL,cL,asq,J,rfl,rfl,hcs,hle,hpt,hJ⟩
   ·rw[he]at hvl;cases hvl
   rw[hvl]at hOs hle⊢
   have hLm:cL[0+m*1]? =some (V9 βp):=Part.Bo hpt (i:=m) (p:=svB βp) hvm 0 (by decide)
   refine W.skip<|aA<|W.seq<|W.block<|W.seq<|W.region rfl ?_
   refine oe rfl wn rfl rfl (G8 (n:=13) rfl rfl rfl (by decide) (fun KY=>?_))
   rw[QI]
   refine agb rfl rfl rfl<|pq<|W.seq<|W.seq<|W.region rfl<|agb rfl rfl rfl<|pq<|W.block ?_
   refine W.loop (σ:=Nat) (fun q=>q≤13) (fun q=>[(12,I q),(11,V9 KY),(10,I (m+1:Nat)),(9,.slice (some ⟨βL,0,none⟩) (m+1) asq),(0,.slice a ps.length cap),(1,I w)]) (fun q=>(KY,bsO (apZ ps w (apM ps k) m q 0))::(βp,bsO (apy ps w (apM ps k) m))::(βL,.cells cL apY (0,0))::(J++Fo)) (fun q=>13-q) 0 (Nat.zero_le _) ⟨rfl,rfl,rfl,rfl,rfl,rfl,trivial⟩ (.eq (eqc (qg fun i _=>aqx i))) ?_
   rintro q hq
   refine W.seq<|W.seq<|W.region rfl<|qm rfl rfl rfl ?_
   refine agW (Lr rfl rfl rfl) rfl ?_
   refine pq ?_
   refine W.bC rfl (fun c34=>?_) (fun c34=>?_)
   ·have Dn:q<13:=by omega
    refine W.skip<|aA<|W.seq<|W.block<|W.seq<|W.region rfl<|agb rfl rfl rfl<|pq<|W.block ?_
    refine W.loop (σ:=Nat) (fun i=>i≤ps.length) (fun i=>[(13,I i),(12,I q),(11,V9 KY),(10,I (m+1:Nat)),(9,.slice (some ⟨βL,0,none⟩) (m+1) asq),(0,.slice a ps.length cap),(1,I w)]) (fun i=>(KY,bsO (apZ ps w (apM ps k) m q i))::(βp,bsO (apy ps w (apM ps k) m))::(βL,.cells cL apY (0,0))::(J++Fo)) (fun i=>ps.length-i) 0 (Nat.zero_le _) ⟨rfl,rfl,rfl,rfl,rfl,rfl,rfl,trivial⟩ .refl ?_
    rintro i hi
    refine W.seq<|W.seq<|W.region rfl<|qm rfl rfl rfl<|qm rfl rfl rfl ?_
    refine agW (dM rfl rfl) rfl ?_
    refine agW (fO rfl rfl rfl) rfl ?_
    refine pq ?_
    refine W.bC rfl (fun c40=>?_) (fun c40=>?_)
    ·have hil:i<ps.length:=by omega
     obtain⟨p,hp,-⟩:=has hil
     have hpi:=hok.pan p (List.mem_of_getElem? hp)
     obtain⟨b,off,c,E2,fz,hv,hbb,hx,hy,hz⟩:=hf.at hp
     cases hv
     have hx':c.extract (off+i*3) (off+i*3+3)= #[I p.lo,I p.hi,I p.sh]:=hx
     clear hx hz
     have hta:P9 ps q i=p.takes q:=by unfold P9;rw[hp]
     have hou:=Vl (q:=q) hp
     have SH:gy ps i q<13:=AZ
     have hg1:(bA (apZ ps w (apM ps k) m q i))[0+q*1]? =some (.bool (apZ ps w (apM ps k) m q i q)):=by rw[show 0+q*1=q by omega];exact L9 Dn
     have hg2:(bA (apy ps w (apM ps k) m))[0+gy ps i q*1]? =some (.bool (apy ps w (apM ps k) m (gy ps i q))):=by rw[show 0+gy ps i q*1=gy ps i q by omega];exact L9 SH
     have hsz:0+q*1<(bA (apZ ps w (apM ps k) m q i)).size:=by rw[nX];omega
     refine W.skip<|aA<|W.seq<|W.block ?_
     refine W.DR [(KY,bsO (apZ ps w (apM ps k) m q i)),(βp,bsO (apy ps w (apM ps k) m)),(βL,.cells cL apY (0,0))] (n:=36) rfl ?_
     refine xq 0 (aN rfl rfl) rfl ?_
     refine xq 1 (aN rfl rfl) rfl ?_
     refine xq 2 (aN rfl rfl) rfl ?_
     refine xq 3 (aN rfl rfl) rfl ?_
     first | refine xq 4 (G_ rfl rfl rfl) rfl ?_ | refine xq 4 (o_ rfl rfl rfl) rfl ?_
     refine xq 5 (iQ rfl rfl) rfl ?_
     refine xq 6 (aN rfl rfl) rfl ?_
     refine Any.RV (d':=49) (fun asr=>?_) (fun asr=>?_)
     ·refine ap (i:=7) rfl rfl rfl rfl rfl rfl ?_
      refine ap (i:=8) rfl rfl rfl rfl rfl rfl ?_
      refine ap (i:=9) rfl rfl rfl rfl rfl rfl ?_
      refine ap (i:=10) rfl rfl rfl rfl rfl rfl ?_
      refine apU (i:=11) rfl rfl rfl rfl rfl ?_
      refine apU (i:=12) rfl rfl rfl rfl rfl ?_
      refine apU (i:=13) rfl rfl rfl rfl rfl ?_
      refine apU (i:=14) rfl rfl rfl rfl rfl ?_
      refine apU (i:=15) rfl rfl rfl rfl rfl ?_
      refine apU (i:=16) rfl rfl rfl rfl rfl ?_
      refine ap (i:=17) rfl rfl rfl rfl rfl rfl ?_
      refine ap (i:=18) rfl rfl rfl rfl rfl rfl ?_
      refine apU (i:=19) rfl rfl rfl rfl rfl ?_
      refine apU (i:=20) rfl rfl rfl rfl rfl ?_
      refine apU (i:=21) rfl rfl rfl rfl rfl ?_
      refine apU (i:=22) rfl rfl rfl rfl rfl ?_
      refine apU (i:=23) rfl rfl rfl rfl rfl ?_
      refine apU (i:=24) rfl rfl rfl rfl rfl ?_
      refine apU (i:=25) rfl rfl rfl rfl rfl ?_
      refine apU (i:=26) rfl rfl rfl rfl rfl ?_
      refine apU (i:=27) rfl rfl rfl rfl rfl ?_
      refine apU (i:=28) rfl rfl rfl rfl rfl ?_
      refine apU (i:=29) rfl rfl rfl rfl rfl ?_
      refine apU (i:=30) rfl rfl rfl rfl rfl ?_
      refine apU (i:=31) rfl rfl rfl rfl rfl ?_
      refine ap (i:=32) rfl rfl rfl rfl rfl rfl ?_
      refine xq 33 (dG rfl rfl rfl) rfl ?_
      first | refine xq 34 (G_ rfl rfl rfl) rfl ?_ | refine xq 34 (o_ rfl rfl rfl) rfl ?_
      refine ae (i:=35) rfl an rfl rfl (eS rfl rfl rfl ?_)
      refine⟨.inl (by kernel_rfl),?_⟩
      refine az ?_
      refine dI<|aA<|W.region rfl<|qm rfl rfl rfl ?_
      refine ag1 rfl ?_
      refine agb rfl rfl rfl<|pq ?_
      refine⟨rfl,i+1,hil,by omega,⟨rfl,rfl,rfl,rfl,rfl,rfl,rfl,trivial⟩,.eq ?_⟩
      rw[show 0+q*1=q by omega,Og Dn]
      refine eqc (qg fun e _=>(ap1 ?_ e).symm)
      rw[apN,hta,←ap4]
      simp[*]
     ·refine aq (i:=7) (aN rfl rfl) rfl (b_ rfl rfl rfl rfl) rfl rfl ?_
      refine aq (i:=8) (aN rfl rfl) rfl (b_ rfl rfl rfl rfl) rfl rfl ?_
      refine aq (i:=9) (nG rfl rfl rfl) rfl (b_ rfl rfl rfl rfl) rfl rfl ?_
      refine aq (i:=10) (aN rfl rfl) rfl (b_ rfl rfl rfl rfl) rfl rfl ?_
      refine Any.ask (d':=53) (fun arQ=>?_) (fun arQ=>?_)
      ·refine aq (i:=11) (aN rfl rfl) rfl (b_ rfl rfl rfl rfl) rfl rfl ?_
       refine aq (i:=12) (aN rfl rfl) rfl (b_ rfl rfl rfl rfl) rfl rfl ?_
       first | refine aq (i:=13) (G_ rfl rfl rfl) rfl (b_ rfl rfl rfl rfl) rfl rfl ?_ | refine aq (i:=13) (o_ rfl rfl rfl) rfl (b_ rfl rfl rfl rfl) rfl rfl ?_
       first | refine aq (i:=14) (Bf rfl rfl) rfl (b_ rfl rfl rfl rfl) rfl rfl ?_ | refine aq (i:=14) (zi rfl rfl) rfl (b_ rfl rfl rfl rfl) rfl rfl ?_
       refine aq (i:=15) (aN rfl rfl) rfl (b_ rfl rfl rfl rfl) rfl rfl ?_
       refine Va (i:=16) (fun h' hE hL=>aik _ h' p q) ?_ (hS:=.inr (.one (.head _) (.one (.tail _ (.head _)) (.one (.tail _ (.tail _ (.head _))) .nil))))
       refine aq (i:=17) (dG rfl rfl rfl) rfl (b_ rfl rfl rfl rfl) rfl rfl ?_
       refine aq (i:=18) (aN rfl rfl) rfl (b_ rfl rfl rfl rfl) rfl rfl ?_
       refine Any.RV (d':=61) (fun arR=>?_) (fun arR=>?_)
       ·refine aq (i:=19) (aN rfl rfl) rfl (b_ rfl rfl rfl rfl) rfl rfl ?_
        refine aq (i:=20) (aN rfl rfl) rfl (b_ rfl rfl rfl rfl) rfl rfl ?_
        refine aqe (i:=21) (aaJ rfl rfl rfl (by omega) (by omega)) (show I _=I (m:Nat) by congr 1;omega) rfl (b_ rfl rfl rfl rfl) rfl rfl ?_
        first | refine aq (i:=22) (G_ rfl rfl rfl) rfl (b_ rfl rfl rfl rfl) rfl rfl ?_ | refine aq (i:=22) (o_ rfl rfl rfl) rfl (b_ rfl rfl rfl rfl) rfl rfl ?_
        refine aq (i:=23) (iQ rfl rfl) rfl (b_ rfl rfl rfl rfl) rfl rfl ?_
        refine aq (i:=24) (aN rfl rfl) rfl (b_ rfl rfl rfl rfl) rfl rfl ?_
        refine aq (i:=25) (aN rfl rfl) rfl (b_ rfl rfl rfl rfl) rfl rfl ?_
        first | refine aq (i:=26) (G_ rfl rfl rfl) rfl (b_ rfl rfl rfl rfl) rfl rfl ?_ | refine aq (i:=26) (o_ rfl rfl rfl) rfl (b_ rfl rfl rfl rfl) rfl rfl ?_
        first | refine aq (i:=27) (Bf rfl rfl) rfl (b_ rfl rfl rfl rfl) rfl rfl ?_ | refine aq (i:=27) (zi rfl rfl) rfl (b_ rfl rfl rfl rfl) rfl rfl ?_
        refine aq (i:=28) (aN rfl rfl) rfl (b_ rfl rfl rfl rfl) rfl rfl ?_
        refine Va (i:=29) (fun h' hE hL=>ab_ _ h' p q ⟨by omega,by omega⟩ ⟨by omega,by omega⟩) ?_ (hS:=.inr (.one (.head _) (.one (.tail _ (.head _)) (.one (.tail _ (.tail _ (.head _))) .nil))))
        rw[←hou]
        first | refine aq (i:=30) (G_ rfl rfl rfl) rfl (b_ rfl rfl rfl rfl) rfl rfl ?_ | refine aq (i:=30) (o_ rfl rfl rfl) rfl (b_ rfl rfl rfl rfl) rfl rfl ?_
        refine aq (i:=31) (iQ rfl rfl) rfl (b_ rfl rfl rfl rfl) rfl rfl ?_
        refine aq (i:=32) (dG rfl rfl rfl) rfl (b_ rfl rfl rfl rfl) rfl rfl ?_
        refine xq 33 (iH rfl rfl rfl) rfl ?_
        first | refine xq 34 (G_ rfl rfl rfl) rfl ?_ | refine xq 34 (o_ rfl rfl rfl) rfl ?_
        refine ae (i:=35) rfl an rfl rfl (eS rfl rfl rfl ?_)
        refine⟨.inl (by kernel_rfl),?_⟩
        refine az ?_
        refine dI<|aA<|W.region rfl<|qm rfl rfl rfl ?_
        refine ag1 rfl ?_
        refine agb rfl rfl rfl<|pq ?_
        refine⟨rfl,i+1,hil,by omega,⟨rfl,rfl,rfl,rfl,rfl,rfl,rfl,trivial⟩,.eq ?_⟩
        rw[show 0+q*1=q by omega,Og Dn]
        refine eqc (qg fun e _=>(ap1 ?_ e).symm)
        rw[apN,hta,←ap4]
        simp[*]
       ·refine ap (i:=19) rfl rfl rfl rfl rfl rfl ?_
        refine ap (i:=20) rfl rfl rfl rfl rfl rfl ?_
        refine ap (i:=21) rfl rfl rfl rfl rfl rfl ?_
        refine ap (i:=22) rfl rfl rfl rfl rfl rfl ?_
        refine ap (i:=23) rfl rfl rfl rfl rfl rfl ?_
        refine ap (i:=24) rfl rfl rfl rfl rfl rfl ?_
        refine ap (i:=25) rfl rfl rfl rfl rfl rfl ?_
        refine ap (i:=26) rfl rfl rfl rfl rfl rfl ?_
        refine ap (i:=27) rfl rfl rfl rfl rfl rfl ?_
        refine ap (i:=28) rfl rfl rfl rfl rfl rfl ?_
        refine ap (i:=29) rfl rfl rfl rfl rfl rfl ?_
        refine ap (i:=30) rfl rfl rfl rfl rfl rfl ?_
        refine ap (i:=31) rfl rfl rfl rfl rfl rfl ?_
        refine aq (i:=32) (iH rfl rfl rfl) rfl (b_ rfl rfl rfl rfl) rfl rfl ?_
        refine xq 33 (iH rfl rfl rfl) rfl ?_
        first | refine xq 34 (G_ rfl rfl rfl) rfl ?_ | refine xq 34 (o_ rfl rfl rfl) rfl ?_
        refine ae (i:=35) rfl an rfl rfl (eS rfl rfl rfl ?_)
        refine⟨.inl (by kernel_rfl),?_⟩
        refine az ?_
        refine dI<|aA<|W.region rfl<|qm rfl rfl rfl ?_
        refine ag1 rfl ?_
        refine agb rfl rfl rfl<|pq ?_
        refine⟨rfl,i+1,hil,by omega,⟨rfl,rfl,rfl,rfl,rfl,rfl,rfl,trivial⟩,.eq ?_⟩
        rw[show 0+q*1=q by omega,Og Dn]
        refine eqc (qg fun e _=>(ap1 ?_ e).symm)
        rw[apN,hta,←ap4]
        simp[*]
      ·refine ap (i:=11) rfl rfl rfl rfl rfl rfl ?_
       refine ap (i:=12) rfl rfl rfl rfl rfl rfl ?_
       refine ap (i:=13) rfl rfl rfl rfl rfl rfl ?_
       refine ap (i:=14) rfl rfl rfl rfl rfl rfl ?_
       refine ap (i:=15) rfl rfl rfl rfl rfl rfl ?_
       refine ap (i:=16) rfl rfl rfl rfl rfl rfl ?_
       refine aq (i:=17) (iH rfl rfl rfl) rfl (b_ rfl rfl rfl rfl) rfl rfl ?_
       refine aq (i:=18) (aN rfl rfl) rfl (b_ rfl rfl rfl rfl) rfl rfl ?_
       refine ap (i:=19) rfl rfl rfl rfl rfl rfl ?_
       refine ap (i:=20) rfl rfl rfl rfl rfl rfl ?_
       refine ap (i:=21) rfl rfl rfl rfl rfl rfl ?_
       refine ap (i:=22) rfl rfl rfl rfl rfl rfl ?_
       refine ap (i:=23) rfl rfl rfl rfl rfl rfl ?_
       refine ap (i:=24) rfl rfl rfl rfl rfl rfl ?_
       refine ap (i:=25) rfl rfl rfl rfl rfl rfl ?_
       refine ap (i:=26) rfl rfl rfl rfl rfl rfl ?_
       refine ap (i:=27) rfl rfl rfl rfl rfl rfl ?_
       refine ap (i:=28) rfl rfl rfl rfl rfl rfl ?_
       refine ap (i:=29) rfl rfl rfl rfl rfl rfl ?_
       refine ap (i:=30) rfl rfl rfl rfl rfl rfl ?_
       refine ap (i:=31) rfl rfl rfl rfl rfl rfl ?_
       refine aq (i:=32) (iH rfl rfl rfl) rfl (b_ rfl rfl rfl rfl) rfl rfl ?_
       refine xq 33 (iH rfl rfl rfl) rfl ?_
       first | refine xq 34 (G_ rfl rfl rfl) rfl ?_ | refine xq 34 (o_ rfl rfl rfl) rfl ?_
       refine ae (i:=35) rfl an rfl rfl (eS rfl rfl rfl ?_)
       refine⟨.inl (by kernel_rfl),?_⟩
       refine az ?_
       refine dI<|aA<|W.region rfl<|qm rfl rfl rfl ?_
       refine ag1 rfl ?_
       refine agb rfl rfl rfl<|pq ?_
       refine⟨rfl,i+1,hil,by omega,⟨rfl,rfl,rfl,rfl,rfl,rfl,rfl,trivial⟩,.eq ?_⟩
       rw[show 0+q*1=q by omega,Og Dn]
       refine eqc (qg fun e _=>(ap1 ?_ e).symm)
       rw[apN,hta,←ap4]
       simp[*]
    ·obtain rfl:i=ps.length:=by omega
     refine W.exit<|bP<|bP<|gG<|dI<|aA<|W.region rfl<|qm rfl rfl rfl ?_
     refine ag1 rfl ?_
     refine agb rfl rfl rfl<|pq ?_
     exact⟨rfl,q+1,Dn,by omega,⟨rfl,rfl,rfl,rfl,rfl,rfl,trivial⟩,.eq (eqc (qg fun e _=>(aqw e).symm))⟩
   ·obtain rfl:q=13:=by omega
    refine W.exit<|bP<|bP<|gG<|aA<|W.region rfl<|qm rfl rfl rfl<|qm rfl rfl rfl ?_
    refine Ops.NK (cs:= #[V9 KY]) (fun atc=>?_) rfl
    refine oe rfl wn rfl rfl (iW (row:=ags) (l':=[svB KY]) rfl rfl rfl hOs (.tail (.tail (.tail .head))) (fun h2 _ hl=>Sl.mk (hl atc _ (.head _)) rfl (Part.all (flat ags [svB KY]))) (by rw[hvl];simp;omega) (by decide) rfl (fun v' S' hS'=>?_))
    refine agb rfl rfl rfl<|Ops.nil<|dI<|aA<|W.region rfl<|qm rfl rfl rfl ?_
    refine ag1 rfl ?_
    refine agb rfl rfl rfl<|pq ?_
    refine⟨rfl,m+1,(KY,vs++[svB KY],v',S',(βp,bsO (apy ps w (apM ps k) m))::Fo),⟨am7,by simp[hvl],by dsimp only;rw[List.getElem?_append_right (by omega),hvl];simp,hS',hLA.next hvm⟩,by omega,⟨rfl,rfl,rfl,rfl,trivial⟩,?_⟩
    exact .skip rfl (.trans (.eq (eqc (qg fun e he=>(aqy he).symm))) (.cons (.trans (.dF (agQ fun y=>by simp only[List.count_append,List.count_cons,List.count_nil];omega)) .refl)))
  ·obtain rfl:m=13:=by omega
   refine W.exit<|bP<|bP<|gG<|aA<|W.seq<|W.region rfl<|qm rfl rfl rfl<|agb rfl rfl rfl<|Ops.nil ?_
   refine aA<|W.ret ?_
   exact mg (vs:=[_]) ⟨vs,SL,(βp,bsO (apy ps w (apM ps k) 13))::Fo,hOs,hvl,hLA.fin hvm,.dF List.perm_middle⟩
end Go.aS

/- The way that the document goes by layers. Conditions: none. -/
namespace Go.aS
def wlk(ps:List Pn)(w:Int)(S:Nat→Bool):Nat→Nat→List Nat
 | 0,_=>[]
 | n+1,q=>match(List.range ps.length).find? fun i=>P9 ps q i&&apy ps w S n (gy ps i q)with
  | some i=>i::wlk ps w S n (gy ps i q)
  | none=>wlk ps w S n q
theorem aqo{f:Nat→Bool}{n i:Nat}(hi:i<n)(hb:∀j,j<i→f j=false)(hf:f i=true):(List.range n).find? f=some i:=by
 rw[List.find?_range_eq_some]
 exact⟨hf,List.mem_range.2 hi,fun j hj=>by simp[hb j hj]⟩
theorem aqp{f:Nat→Bool}{n:Nat}(hb:∀j,j<n→f j=false):(List.range n).find? f=none:=by
 rw[List.find?_eq_none]
 intro j hj
 simp[hb j (List.mem_range.1 hj)]
theorem arp{ps:List Pn}{w:Int}{S:Nat→Bool}{n q i:Nat}(hi:i<ps.length)(hb:∀j,j<i→(P9 ps q j&&apy ps w S n (gy ps j q))=false)(hf:(P9 ps q i&&apy ps w S n (gy ps i q))=true):wlk ps w S (n+1) q=i::wlk ps w S n (gy ps i q):=by
 rw[wlk,aqo hi hb hf]
theorem ara{ps:List Pn}{w:Int}{S:Nat→Bool}{n q:Nat}(hb:∀j,j<ps.length→(P9 ps q j&&apy ps w S n (gy ps j q))=false):wlk ps w S (n+1) q=wlk ps w S n q:=by
 rw[wlk,aqp hb]
end Go.aS

/- The way by layers, as the document has it. Conditions: none; over the given program. -/
namespace Go.aS
set_option maxRecDepth 100000
set_option maxHeartbeats 4000000
theorem arq(main:Side)(h:Hp)(ps:List Pn)(vp:Value)(w:Int)(S:Nat→Bool)(vs:List Sv)(vl:Value)(q n:Nat)(hf:Sl h Pn.row vp ps)(hok:iP ps)(hv:Sl h ags vl vs)(ahc:∀k,k<14→∃β E z,vs[k]? =some (svB β)∧h β=some (.cells (bA (apy ps w S k)) E z))(hq:q<13)(hn:n≤14):dV prog main aqn #[vp,vl,I q,I n] h [] (fun v A=>∃Sw,Os dL fH v (zs (wlk ps w S n q)) Sw∧Sb Sw A):=by
 obtain⟨a,cap,rfl⟩:=hf.dA
 obtain⟨al,cl,rfl⟩:=hv.dA
 have h4:=hok.len
 refine dV.aG aqG rfl (by show 4≤55;decide) [(0,.slice a ps.length cap),(1,.slice al vs.length cl),(2,I q),(3,I n)] ⟨rfl,rfl,rfl,rfl,trivial⟩ ?_
 refine W.seq<|W.region rfl<|agb rfl rfl rfl<|pq<|W.seq<|W.region rfl<|agb rfl rfl rfl<|pq ?_
 refine W.seq<|W.seq<|W.region rfl<|qm rfl rfl rfl ?_
 refine ag5 rfl ?_
 refine agb rfl rfl rfl<|pq<|W.block ?_
 refine W.loop (σ:=Nat×Nat×List Nat×Value×ah) (fun t=>t.1≤n∧t.2.1<13∧wlk ps w S n q=t.2.2.1++wlk ps w S t.1 t.2.1∧t.2.2.1.length≤n-t.1∧Os dL fH t.2.2.2.1 (zs t.2.2.1) t.2.2.2.2) (fun t=>[(10,I ((t.1:Int)-1)),(9,t.2.2.2.1),(2,I t.2.1),(0,.slice a ps.length cap),(1,.slice al vs.length cl)])
  (fun t=>t.2.2.2.2) (fun t=>t.1) (n,q,[],.slice none 0 0,[]) ⟨Nat.le_refl _,hq,rfl,by simp,.nil .nil⟩ ⟨rfl,rfl,rfl,rfl,rfl,trivial⟩ .refl ?_
 clear hq
 rintro⟨m,r,way,v,Sw⟩ ⟨hm,hr,hw,hwl,hO⟩
 dsimp only at*
 refine W.seq<|W.seq<|W.region rfl<|qm rfl rfl rfl ?_
 refine agW (IJ rfl rfl rfl) rfl ?_
 refine pq ?_
 refine W.bC rfl (fun c15=>?_) (fun c15=>?_)
 ·obtain⟨m,rfl⟩:∃x,m=x+1:=⟨m-1,by omega⟩
  obtain⟨Fe,Em,zm,hvm,hbm⟩:=ahc m (by omega)
  obtain⟨bl,arS,ccl,El,fzl,hel,hbl,-,-,hzl⟩:=hv.at hvm
  have hxl:ccl[arS+m*1]? =some (V9 Fe):=hzl 0 (by decide)
  clear hzl
  have hmv:m<vs.length:=(List.getElem?_eq_some_iff.1 hvm).1
  refine W.skip<|aA<|W.seq<|W.block<|W.seq<|W.region rfl<|agb rfl rfl rfl<|pq<|W.block ?_
  refine W.loop (σ:=Nat) (fun i=>i≤ps.length∧∀j,j<i→(P9 ps r j&&apy ps w S m (gy ps j r))=false) (fun i=>[(11,I i),(10,I m),(9,v),(2,I r),(0,.slice a ps.length cap),(1,.slice al vs.length cl)]) (fun _=>Sw) (fun i=>ps.length-i) 0 ⟨Nat.zero_le _,fun j hj=>absurd hj (Nat.not_lt_zero j)⟩ ⟨rfl,lk rfl (show I _=I _ by congr 1;omega),rfl,rfl,rfl,rfl,trivial⟩ .refl ?_
  rintro i ⟨hi,hno⟩
  refine W.seq<|W.seq<|W.region rfl<|qm rfl rfl rfl<|qm rfl rfl rfl ?_
  refine agW (dM rfl rfl) rfl ?_
  refine agW (fO rfl rfl rfl) rfl ?_
  refine pq ?_
  refine W.bC rfl (fun c21=>?_) (fun c21=>?_)
  ·have hil:i<ps.length:=by omega
   obtain⟨p,hp,-⟩:=has hil
   have hpi:=hok.pan p (List.mem_of_getElem? hp)
   obtain⟨b,off,c,E2,fz,hv2,hbb,hx,hy,hz⟩:=hf.at hp
   cases hv2
   cases hel
   have hx':c.extract (off+i*3) (off+i*3+3)= #[I p.lo,I p.hi,I p.sh]:=hx
   clear hx hz
   have hta:P9 ps r i=p.takes r:=by unfold P9;rw[hp]
   have hou:=Vl (q:=r) hp
   have SH:gy ps i r<13:=AZ
   have hg2:(bA (apy ps w S m))[0+gy ps i r*1]? =some (.bool (apy ps w S m (gy ps i r))):=by rw[show 0+gy ps i r*1=gy ps i r by omega];exact L9 SH
   refine W.skip<|aA<|W.seq<|W.block<|W.seq ?_
   refine W.DR [] (n:=20) rfl ?_
   refine xq 0 (aN rfl rfl) rfl ?_
   refine xq 1 (aN rfl rfl) rfl ?_
   first | refine xq 2 (G_ rfl rfl rfl) rfl ?_ | refine xq 2 (o_ rfl rfl rfl) rfl ?_
   first | refine xq 3 (Bf rfl rfl) rfl ?_ | refine xq 3 (zi rfl rfl) rfl ?_
   refine xq 4 (aN rfl rfl) rfl ?_
   refine Va (i:=5) (fun h' hE hL=>aik _ h' p r) ?_ (hS:=.inr Keeps.nil)
   refine xq 6 (aN rfl rfl) rfl ?_
   refine Any.RV (d':=30) (fun ate=>?_) (fun ate=>?_)
   ·refine aq (i:=7) (aN rfl rfl) rfl (b_ rfl rfl rfl rfl) rfl rfl ?_
    refine aq (i:=8) (aN rfl rfl) rfl (b_ rfl rfl rfl rfl) rfl rfl ?_
    first | refine aq (i:=9) (G_ rfl rfl rfl) rfl (b_ rfl rfl rfl rfl) rfl rfl ?_ | refine aq (i:=9) (o_ rfl rfl rfl) rfl (b_ rfl rfl rfl rfl) rfl rfl ?_
    refine aq (i:=10) (iQ rfl rfl) rfl (b_ rfl rfl rfl rfl) rfl rfl ?_
    refine aq (i:=11) (aN rfl rfl) rfl (b_ rfl rfl rfl rfl) rfl rfl ?_
    refine aq (i:=12) (aN rfl rfl) rfl (b_ rfl rfl rfl rfl) rfl rfl ?_
    first | refine aq (i:=13) (G_ rfl rfl rfl) rfl (b_ rfl rfl rfl rfl) rfl rfl ?_ | refine aq (i:=13) (o_ rfl rfl rfl) rfl (b_ rfl rfl rfl rfl) rfl rfl ?_
    first | refine aq (i:=14) (Bf rfl rfl) rfl (b_ rfl rfl rfl rfl) rfl rfl ?_ | refine aq (i:=14) (zi rfl rfl) rfl (b_ rfl rfl rfl rfl) rfl rfl ?_
    refine aq (i:=15) (aN rfl rfl) rfl (b_ rfl rfl rfl rfl) rfl rfl ?_
    refine Va (i:=16) (fun h' hE hL=>ab_ _ h' p r ⟨by omega,by omega⟩ ⟨by omega,by omega⟩) ?_ (hS:=.inr Keeps.nil)
    rw[←hou]
    first | refine aq (i:=17) (G_ rfl rfl rfl) rfl (b_ rfl rfl rfl rfl) rfl rfl ?_ | refine aq (i:=17) (o_ rfl rfl rfl) rfl (b_ rfl rfl rfl rfl) rfl rfl ?_
    refine aq (i:=18) (iQ rfl rfl) rfl (b_ rfl rfl rfl rfl) rfl rfl ?_
    refine xq 19 (dG rfl rfl rfl) rfl ?_
    refine az ?_
    refine aA ?_
    refine W.cond rfl (fun c43=>?_) (fun c43=>?_)
    ·refine W.seq ?_
     refine W.DR [] (n:=12) rfl ?_
     refine xq 0 (aN rfl rfl) rfl ?_
     refine xq 1 (aN rfl rfl) rfl ?_
     refine xq 4 (aN rfl rfl) rfl ?_
     refine xq 5 (aN rfl rfl) rfl ?_
     first | refine xq 6 (G_ rfl rfl rfl) rfl ?_ | refine xq 6 (o_ rfl rfl rfl) rfl ?_
     first | refine xq 7 (Bf rfl rfl) rfl ?_ | refine xq 7 (zi rfl rfl) rfl ?_
     refine xq 8 (aN rfl rfl) rfl ?_
     refine abl (i:=2) (cs:= #[I i]) (fun J5=>?_) rfl (hk:=Keeps.nil) (hf:=by kernel_rfl)
     refine ae (i:=3) rfl an rfl rfl (iW (row:=fH) (l':=[(i:Int)]) rfl rfl rfl hO (.tail .all) (fun h2 _ hl=>Sl.mk (hl J5 _ (.head _)) rfl (Part.all [I i])) (by rw[kT];simp;omega) (by decide) rfl (fun v' S' Ie=>?_))
     refine⟨.inr Keeps.nil,?_⟩
     refine Va (i:=9) (fun h' hE hL=>ab_ _ h' p r ⟨by omega,by omega⟩ ⟨by omega,by omega⟩) ?_ (hS:=.inr Keeps.nil)
     rw[←hou]
     refine xq 10 (jS rfl rfl) rfl ?_
     refine xq 11 (jS rfl rfl) rfl ?_
     refine az ?_
     refine aA<|W.exit<|Tt<|bP<|bP<|gG<|dI<|aA<|W.region rfl<|qm rfl rfl rfl ?_
     refine ag5 rfl ?_
     refine agb rfl rfl rfl<|pq ?_
     have hhit:(P9 ps r i&&apy ps w S m (gy ps i r))=true:=by rw[hta];simp[*]
     exact⟨rfl,(m,gy ps i r,way++[i],v',S'),⟨by omega,SH,by rw[hw,arp hil hno hhit];simp,by simp;omega,by simpa[zs]using Ie⟩,by dsimp only;omega,⟨rfl,rfl,rfl,rfl,rfl,trivial⟩,.skip rfl .refl⟩
    ·refine W.skip<|dI<|aA<|W.region rfl<|qm rfl rfl rfl ?_
     refine ag1 rfl ?_
     refine agb rfl rfl rfl<|pq ?_
     refine⟨rfl,i+1,⟨hil,fun j hj=>?_⟩,by omega,⟨rfl,rfl,rfl,rfl,rfl,rfl,trivial⟩,.refl⟩
     rcases Nat.lt_or_ge j i with h1 | h1
     ·exact hno j h1
     ·obtain rfl:j=i:=by omega
      rw[hta];simp[*]
   ·refine ap (i:=7) rfl rfl rfl rfl rfl rfl ?_
    refine ap (i:=8) rfl rfl rfl rfl rfl rfl ?_
    refine ap (i:=9) rfl rfl rfl rfl rfl rfl ?_
    refine ap (i:=10) rfl rfl rfl rfl rfl rfl ?_
    refine ap (i:=11) rfl rfl rfl rfl rfl rfl ?_
    refine ap (i:=12) rfl rfl rfl rfl rfl rfl ?_
    refine ap (i:=13) rfl rfl rfl rfl rfl rfl ?_
    refine ap (i:=14) rfl rfl rfl rfl rfl rfl ?_
    refine ap (i:=15) rfl rfl rfl rfl rfl rfl ?_
    refine ap (i:=16) rfl rfl rfl rfl rfl rfl ?_
    refine ap (i:=17) rfl rfl rfl rfl rfl rfl ?_
    refine ap (i:=18) rfl rfl rfl rfl rfl rfl ?_
    refine xq 19 (iH rfl rfl rfl) rfl ?_
    refine az ?_
    refine aA ?_
    refine W.bZ ?_
    refine W.skip<|dI<|aA<|W.region rfl<|qm rfl rfl rfl ?_
    refine ag1 rfl ?_
    refine agb rfl rfl rfl<|pq ?_
    refine⟨rfl,i+1,⟨hil,fun j hj=>?_⟩,by omega,⟨rfl,rfl,rfl,rfl,rfl,rfl,trivial⟩,.refl⟩
    rcases Nat.lt_or_ge j i with h1 | h1
    ·exact hno j h1
    ·obtain rfl:j=i:=by omega
     rw[hta];simp[*]
  ·refine W.exit<|bP<|bP<|gG<|dI<|aA<|W.region rfl<|qm rfl rfl rfl ?_
   refine ag5 rfl ?_
   refine agb rfl rfl rfl<|pq ?_
   obtain rfl:i=ps.length:=by omega
   exact⟨rfl,(m,r,way,v,Sw),⟨by omega,hr,by rw[hw,ara hno],by dsimp only;omega,hO⟩,by dsimp only;omega,⟨rfl,rfl,rfl,rfl,rfl,trivial⟩,.refl⟩
 ·obtain rfl:m=0:=by omega
  refine W.exit<|bP<|bP<|gG<|aA<|W.seq<|W.region rfl<|qm rfl rfl rfl<|agb rfl rfl rfl<|Ops.nil ?_
  refine aA<|W.ret ?_
  refine mg (vs:=[_]) ⟨Sw,?_,.refl⟩
  rw[hw,wlk,List.append_nil];exact hO
end Go.aS

/- SyrupLongest. Conditions: none; over the given program. -/
namespace Go.aS
set_option maxRecDepth 100000
set_option maxHeartbeats 4000000
end Go.aS

/- What goes round for ever comes to a ring. Conditions: none; no program in sight. -/
namespace Go.aS
set_option linter.unusedVariables false
end Go.aS

/- All ways of so many steps; the first of them. Conditions: none; no program in sight. -/
namespace Go.aS
set_option linter.unusedVariables false
end Go.aS

/- All lists of so many numbers, as a program makes them; all ascending ones. Conditions: none; no program in sight. -/
namespace Go.aS
set_option linter.unusedVariables false
end Go.aS

/- All lists of so many numbers. Conditions: none; over the given program. -/
namespace Go.aS
set_option maxRecDepth 100000
set_option maxHeartbeats 4000000
end Go.aS

/- Ways, as the laws make them. Conditions: none; over the given program. -/
namespace Go.aS
set_option maxRecDepth 100000
set_option maxHeartbeats 4000000
end Go.aS

/- Comparing truth values. Conditions: none; over any program. -/
namespace Go.aS
section
variable{x:Cx}{ρ:Env}{S:ah→Prop}{o:Oper}{v:Value}
end
end Go.aS

/- Shut blocks are put by. Conditions: none; over any program. -/
namespace Go.aS
theorem agy{c:Code}{Q:Post}{ρ:Env}{ds:List Deferred}{F:ah}:∀{A:ah} {x:Cx},Shut A→(∀h',Ext x.h h'→fF A h'→W {x with h:=h'} c Q ρ ds F)→W x c Q ρ ds (A++F)
 | [],x,_,H=>H x.h ⟨fun _ _ q=>q,fun _ q=>q⟩ fun b o hb=>by cases hb
 | (b,o)::A,x,hA,H=>W.freeze (hA _ (.head _)) fun h' hE hb hz=>agy (x:={x with h:=h'}) (fun p hp=>hA p (.tail _ hp)) fun h'' hE' hL=>H h'' (hE.trans hE') fun b' o' h=>by
  rcases List.mem_cons.1 h with e | h
  ·cases e;exact hE'.1 _ _ hb
  ·exact hL _ _ h
theorem W.cut{x:Cx}{c c2:Code}{Q:Post}{ρ:Env}{ds:List Deferred}{F:ah}(L:Env)(G:ah)(H:W x c (fun e ρ' ds' F'=>e= .normal∧ds'=ds∧Sub L ρ'∧Sb G F') ρ ds F)(K:W x c2 Q L ds G):W x c (thn (fun ρ' ds' F'=>W x c2 Q ρ' ds' F') Q) ρ ds F:=
 W.mono H fun e ρ' ds' F' h=>by
  obtain⟨he,hd,hs,hb⟩:=h
  subst he hd
  exact aA (W.env hs (W.sb hb K))
theorem W.aiB{σ:Type}{x:Cx}{c c2:Code}{Q:Post}{ρ:Env}{ds:List Deferred}{F:ah}(ok:σ→Prop)(L:σ→Env)(G:σ→ah)(H:W x c (fun e ρ' ds' F'=>e= .normal∧ds'=ds∧∃s,ok s∧Sub (L s) ρ'∧Sb (G s) F') ρ ds F)(K:∀s,ok s→W x c2 Q (L s) ds (G s)):W x c (thn (fun ρ' ds' F'=>W x c2 Q ρ' ds' F') Q) ρ ds F:=
 W.mono H fun e ρ' ds' F' h=>by
  obtain⟨he,hd,s,ho,hs,hb⟩:=h
  subst he hd
  exact aA (W.env hs (W.sb hb (K s ho)))
end Go.aS

/- SyrupRing. Conditions: none; over the given program. -/
namespace Go.aS
set_option maxRecDepth 100000
set_option maxHeartbeats 4000000
end Go.aS

/- The shortest ring, as the document has it: the same as the program's. Conditions: none; over the given program. -/
namespace Go.aS
set_option maxRecDepth 100000
set_option maxHeartbeats 4000000
theorem aqU{ps:List Pn}(h4:ps.length≤4){S:Nat→Bool}:∀{n q:Nat},P7 (dO ps 0) S n q=true→wlk ps (-1) S n q=acO (dO ps 0) S n q
 | 0,q,_=>rfl
 | n+1,q,h=>by
  have e:(dO ps 0 q).find? (fun po=>P7 (dO ps 0) S n po.2)=((List.range ps.length).find? fun i=>P9 ps q i&&apy ps (-1) S n (gy ps i q)).map fun i=>(i,gy ps i q):=by
   rw[dO,ale h4,List.find?_map,List.find?_filter]
   congr 1
   refine congrArg (fun f=>List.find? f _) (funext fun i=>?_)
   simp[ap2 h4]
  have e2:P7 (dO ps 0) S (n+1) q=(dO ps 0 q).any fun po=>P7 (dO ps 0) S n po.2:=rfl
  rw[wlk,acO,e]
  cases hf:(List.range ps.length).find? fun i=>P9 ps q i&&apy ps (-1) S n (gy ps i q)with
  | none=>
   rw[hf,Option.map_none]at e
   rw[e2]at h
   obtain⟨x,hx,hy⟩:=List.any_eq_true.1 h
   have:=List.find?_eq_none.1 e x hx
   exact absurd hy this
  | some i=>
   have:=List.find?_some hf
   simp only[Bool.and_eq_true]at this
   rw[ap2 h4]at this
   exact congrArg (i:: ·) (aqU h4 this.2)
theorem arb{g:yV}{T:Nat→Bool}{lo q n:Nat}(hn:n<14)(hlo:lo≤n)(hno:∀j,lo≤j→j<n→P7 g T j q=false)(hit:P7 g T n q=true):afV g T lo q=some (acO g T n q):=by
 rw[afV,List.find?_filter,aqo hn (fun j hj=>?_) (by simp[hlo,hit])]
 ·rfl
 ·by_cases h1:lo≤j
  ·simp[hno j h1 hj]
  ·simp[h1]
theorem aq3{g:yV}{T:Nat→Bool}{lo q:Nat}(hno:∀j,lo≤j→j<14→P7 g T j q=false):afV g T lo q=none:=by
 rw[afV,List.find?_filter,aqp (fun j hj=>?_)]
 ·rfl
 ·by_cases h1:lo≤j
  ·simp[hno j h1 hj]
  ·simp[h1]
theorem ard{ps:List Pn}{q:Nat}:apM ps q=fun e=>decide (e=q):=funext fun e=>by
 rw[apM,if_pos (by omega)];exact decide_eq_decide.2 (by omega)
end Go.aS

/- From where syrups go round for ever: the list. Conditions: none; over the given program. -/
namespace Go.aS
set_option maxRecDepth 100000
set_option maxHeartbeats 4000000
def qsL(f:Nat→Bool):List Nat:=(List.range 13).filter f
theorem afn{f:Nat→Bool}:(qsL f).length≤13:=Nat.le_trans (List.length_filter_le ..) (by simp)
theorem ae1(main:Side)(h:Hp)(f:Nat→Bool):dV prog main aaV #[.agg (bA f)] h [] (fun v A=>∃S,Os dL fH v (zs (qsL f)) S∧Sb S A):=by
 refine dV.aG aa2 rfl (by show 1≤18;decide) [(0,.agg (bA f))] ⟨rfl,trivial⟩ ?_
 have hsz:(bA f).size=13:=nX
 have hon:ones (bA f).toList=true:=Un
 refine W.seq<|W.region rfl ?_
 refine Ops.box (cs:=bA f) (fun β1=>?_)
 refine agb rfl rfl rfl<|pq<|W.seq<|W.region rfl<|agb rfl rfl rfl<|pq<|W.seq<|W.seq ?_
 refine W.region rfl ?_
 refine ag2 rfl ?_
 refine qm rfl rfl rfl<|pq<|W.block ?_
 refine W.Js (fun(k:Nat) (v:Value) (S:ah)=>k≤13∧Os dL fH v (zs ((List.range k).filter f)) S) (fun k v S=>[(7,I k),(6,.agg (bA f)),(3,v),(1,.pointer (some ⟨β1,0,none⟩))]) (fun k v S=>S++[(β1,.cells (bA f) aP (0,0))]) (fun k _ _=>13-k) 0 (.slice none 0 0) [] ⟨Nat.zero_le _,.nil .nil⟩ ⟨rfl,rfl,rfl,rfl,trivial⟩ .refl ?_
 rintro k v S ⟨hk,hS⟩
 refine W.seq<|W.region rfl ?_
 refine agW (fO rfl rfl rfl) rfl ?_
 refine pq<|W.seq ?_
 refine W.bC rfl (fun c8=>?_) (fun c8=>?_)
 ·have Vq:k<13:=by omega
  have hlen:(zs ((List.range k).filter f)).length≤13:=by rw[kT];exact Nat.le_trans (List.length_filter_le ..) (by simp;omega)
  refine W.skip<|aA<|W.seq<|W.block<|W.seq<|W.region rfl<|qm rfl rfl rfl ?_
  refine agW (Ti (n:=k) (v:=.bool (f k)) rfl rfl rfl (by omega) (by omega) (by rw[Int.toNat_natCast,Nat.mul_one];exact L9 Vq)) rfl ?_
  refine agb rfl rfl rfl<|agb rfl rfl rfl<|pq<|W.seq<|W.region rfl<|qm rfl rfl rfl<|pq ?_
  refine W.cond rfl (fun c11=>?_) (fun c11=>?_)
  ·refine W.region rfl<|qm rfl rfl rfl<|qm rfl rfl rfl ?_
   refine Ops.NK (cs:= #[I k]) (fun aht=>?_) rfl
   refine oe rfl wn rfl rfl (iW (row:=fH) (l':=[(k:Int)]) rfl rfl rfl hS (.tail .head) (fun h2 _ hl=>Sl.mk (hl aht _ (.head _)) rfl (Part.all [I k])) (by simp;omega) (by decide) rfl (fun v' S' hS'=>?_))
   refine agb rfl rfl rfl<|Ops.nil<|dI<|aA<|W.region rfl ?_
   refine ag1 rfl ?_
   refine qm rfl rfl rfl<|pq ?_
   exact⟨rfl,k+1,v',S',⟨by omega,by rw[List.range_succ,List.filter_append,X3];simpa[zs,c11]using hS'⟩,by omega,⟨rfl,rfl,rfl,rfl,trivial⟩,.skip rfl .refl⟩
  ·refine W.skip<|dI<|aA<|W.region rfl ?_
   refine ag1 rfl ?_
   refine qm rfl rfl rfl<|pq ?_
   exact⟨rfl,k+1,v,S,⟨by omega,by rw[List.range_succ,List.filter_append,X3];simpa[zs,c11]using hS⟩,by omega,⟨rfl,rfl,rfl,rfl,trivial⟩,.refl⟩
 ·refine W.exit<|bP<|bP<|gG<|aA<|W.seq<|W.region rfl<|qm rfl rfl rfl<|agb rfl rfl rfl<|Ops.nil ?_
  refine aA<|W.ret ?_
  obtain rfl:k=13:=by omega
  exact mg (vs:=[v]) ⟨S,hS,.right .refl (.cons rfl .nil)⟩
end Go.aS

/- The shortest way to treacle; what treacle comes of a syrup. Conditions: none; over the given program. -/
namespace Go.aS
set_option maxRecDepth 100000
set_option maxHeartbeats 4000000
def shF(ps:List Pn)(c q:Nat):Option Wy:=(Ah (dO ps c) q).find? fun w=>dY ps w.2
theorem ah_(main:Side)(h:Hp)(ps:List Pn)(vp:Value)(c q:Nat)(hf:Sl h Pn.row vp ps)(hok:iP ps)(hc:c<16)(hq:q<13):dV prog main ag6 #[xJ vp c,I q] h [] (fun v A=>∃w S,v= .tuple #[w,.bool (shF ps c q).isSome]∧(∀u,shF ps c q=some u→Vx S w (zs u.1))∧(shF ps c q=none→w= .slice none 0 0)∧Shut S∧Sb S A):=by
 obtain⟨a,cap,rfl⟩:=hf.dA
 refine dV.aG ahp rfl (by show 2≤17;decide) [(0,xJ (.slice a ps.length cap) c),(1,I q)] ⟨rfl,rfl,trivial⟩ ?_
 refine W.seq<|W.region rfl ?_
 refine Ops.box (cs:= #[.slice a ps.length cap,U8 c]) (fun yR=>?_)
 refine Ops.new (fun wC=>?_)
 refine Ops.new (fun mZ=>?_)
 refine pq<|W.seq<|W.seq<|W.region rfl ?_
 refine ag2 rfl ?_
 refine qm rfl rfl rfl ?_
 refine c0 (fun h' hE hL=>Yt _ h' _ c q rfl) (fun v A' hv=>?_)
 obtain⟨b1,b2,rfl,rfl⟩:=hv
 refine pq<|W.block ?_
 refine W.abW (Val:=adG) (xs:=Ah (dO ps c) q) rfl rfl rfl
  (fun k A=>(∀y∈(Ah (dO ps c) q).take k,dY ps y.2=false)∧A=[(mZ,.cells #[.bool false] RS (0,0)),(wC,.cells #[.slice none 0 0] nS (0,0)),(yR,.cells #[.slice a ps.length cap,U8 c] bG (0,0))])
  (fun k v e A=>e= .ret∧∃w vw,(Ah (dO ps c) q)[k]? =some w∧(∀y∈(Ah (dO ps c) q).take k,dY ps y.2=false)∧dY ps w.2=true∧v= .agg #[vw,I w.2]∧A=[(mZ,.cells #[.bool true] RS (0,0)),(wC,.cells #[vw] nS (0,0))])
  (.tail (.tail .all)) ⟨by simp,rfl⟩ (fun h' hE hL=>Qm _ h' ps _ c q b1 b2 _ _ _ _ (hf.ext hE) hok hc (by omega) (hL b1 _ (.head _)) (hL b2 _ (.tail _ (.head _)))) ?_ ?_
 ·rintro k p v S A1 hp ⟨vw,rfl,hv1,hvR⟩ ⟨hno,rfl⟩ l h1 hE1 hL1 hS1
  obtain⟨av,cv,rfl⟩:=(hvR.2 _ hS1).dA
  have hlen:(zs p.1).length=p.1.length:=kT _
  refine W.region rfl ?_
  refine Ops.new (fun yC=>?_)
  refine Ops.jP (vs:= #[.slice av (zs p.1).length cv,I p.2]) ?_
  refine Ops.nil ?_
  refine⟨rfl,rfl,fun h0 hE0 hL0=>?_⟩
  intro hS0
  refine W.block<|W.seq<|W.region rfl ?_
  refine ag2 rfl ?_
  refine agY rfl ?_
  refine agX rfl ?_
  refine cp (fun h' hE hL=>Si _ h' ps _ c p.2 (hf.ext (hE0.trans hE)) hok.len) ?_
  refine pq ?_
  refine W.cond rfl (fun c14=>?_) (fun c14=>?_)
  ·refine W.seq<|W.region rfl ?_
   refine agY rfl ?_
   refine agX rfl ?_
   refine Ops.yG ?_
   refine Ops.yG ?_
   refine pq<|W.ret<|cZ ?_
   exact⟨rfl,.inr ⟨rfl,_,⟨rfl,p,_,hp,hno,c14,rfl,rfl⟩,.skip rfl (.cons (.cons (.nil (.cons rfl .nil))))⟩⟩
  ·refine W.skip<|dI ?_
   exact⟨rfl,.inl ⟨rfl,_,⟨Qn (p:=fun w:Wy=>dY ps w.2) hp hno (by simpa using c14),rfl⟩,.skip rfl .refl⟩⟩
 ·rintro e2 A2 (⟨rfl,hno,rfl⟩ | ⟨k,p,v,S,B,hp,⟨vw,rfl,hv1,hvR⟩,⟨rfl,w,vw',hw,hno,hr,hv,rfl⟩,rfl⟩) d
  ·refine dI<|aA<|W.seq<|W.region rfl ?_
   refine Ops.yG ?_
   refine Ops.yG ?_
   refine pq<|W.ret ?_
   have e3:shF ps c q=none:=Vz hno
   refine lvm (hl:=At.head) (QJ (hv:=rSc (rSc zJ)) ?_)
   rw[e3]
   exact⟨_,[],rfl,(fun u h=>by cases h),(fun _=>rfl),.nil,.nil (by repeat(first | exact Shut.nil | refine Shut.cons rfl ?_))⟩
  ·obtain rfl:=Option.some.inj (hp.symm.trans hw)
   obtain rfl:vw=vw':=by simpa using hv
   have e3:shF ps c q=some p:=Ut hp hno hr
   refine cZ<|aY ?_
   refine lvm (hl:=At.head) (QJ (hv:=rSc (rSc zJ)) ?_)
   rw[e3]
   exact⟨_,S,rfl,(fun u h=>by cases h;exact hvR),(fun h=>by cases h),hvR.1,.skip rfl (.skip rfl (.skip rfl (.skip rfl (.skip rfl .refl))))⟩
def ahU(ps:List Pn)(q:Int):List Nat×Int:=
 if kU ps [q]≠0 then([],kU ps [q])else
  match shF ps 0 q.toNat with
  | some w=>(w.1,0)
  | none=>([],11)
theorem aib(main:Side)(h:Hp)(ps:List Pn)(vp:Value)(q:Int)(hf:Sl h Pn.row vp ps):dV prog main ahi #[vp,I q] h [] (fun v A=>∃w S,v= .tuple #[w,I (ahU ps q).2]∧Vx S w (zs (ahU ps q).1)∧Sb S A):=by
 obtain⟨a,cap,rfl⟩:=hf.dA
 refine dV.aG ahO rfl (by show 2≤29;decide) [(0,.slice a ps.length cap),(1,I q)] ⟨rfl,rfl,trivial⟩ ?_
 refine W.seq<|W.region rfl<|agb rfl rfl rfl<|agb rfl rfl rfl<|pq<|W.seq<|W.region rfl<|qm rfl rfl rfl<|qm rfl rfl rfl ?_
 refine Ops.NK (cs:= #[I q]) (fun X5=>?_) rfl
 refine cp (fun h' hE hL=>Am _ h' ps _ [q] _ (hf.ext hE) (Sl.mk (hL X5 _ (.head _)) rfl (Part.all [I q])) (by simp)) ?_
 refine qm rfl rfl rfl<|oq (bD rfl rfl rfl) rfl wn rfl rfl<|oq (bD rfl rfl rfl) rfl wn rfl rfl ?_
 have hcs:∃cs:Array Value,(if kU ps [q]=0 then xJ (.slice a ps.length cap) 0 else LZ)= .agg cs∧cs.size=2∧ones cs.toList=true:=by
  split <;>exact⟨_,rfl,rfl,rfl⟩
 obtain⟨cs,hcs,hcs2,hcs1⟩:=hcs
 rw[hcs]
 refine Ops.new (fun yC=>?_)
 refine Ops.jP (n:=2) (vs:=cs) ?_ (hy:=by rfl) (hn:=hcs2) (h1:=hcs1)
 refine agb rfl rfl rfl<|pq<|W.seq<|W.seq<|W.region rfl<|qm rfl rfl rfl ?_
 refine agW (nG rfl rfl rfl) rfl ?_
 refine pq ?_
 refine W.bC rfl (fun c18=>?_) (fun c18=>?_)
 ·have e:ahU ps q=([],kU ps [q]):=by rw[ahU,if_pos (by simpa using c18)]
  refine W.seq<|W.region rfl<|qm rfl rfl rfl<|agb rfl rfl rfl<|agb rfl rfl rfl<|pq<|W.ret<|aY ?_
  refine mg (vs:=[_,_]) ?_
  rw[e]
  exact⟨_,[],rfl,⟨.nil,fun _ _=>.nil⟩,.nil (by repeat(first | exact Shut.nil | refine Shut.cons rfl ?_))⟩
 ·have h0:kU ps [q]=0:=by simpa using c18
  obtain⟨hok,hq0,hq12⟩:=Sj h0
  rw[if_pos h0]at hcs
  cases hcs
  obtain⟨q,rfl⟩:∃n:Nat,q=n:=⟨q.toNat,by omega⟩
  have e:ahU ps q=match shF ps 0 q with | some w=>(w.1,0) | none=>([],11):=by rw[ahU,if_neg (by simpa using h0),Int.toNat_natCast]
  refine W.skip<|aA<|W.seq<|W.region rfl ?_
  refine ag2 rfl ?_
  refine qm rfl rfl rfl ?_
  refine c0 (fun h' hE hL=>ah_ _ h' ps _ 0 q (hf.ext hE) hok (by decide) (by omega)) (fun v A' hv=>?_)
  obtain⟨w,S,rfl,hw1,hw2,hSS,hsb⟩:=hv
  refine qm rfl rfl rfl<|oq (bD rfl rfl rfl) rfl wn rfl rfl<|oq (bD rfl rfl rfl) rfl wn rfl rfl<|agb rfl rfl rfl<|agb rfl rfl rfl<|pq<|W.seq<|W.seq<|W.region rfl ?_
  refine qm rfl rfl rfl ?_
  refine agW (xU rfl rfl) rfl ?_
  refine pq ?_
  refine W.cond rfl (fun c27=>?_) (fun c27=>?_)
  ·have e2:shF ps 0 q=none:=by
    cases hh:shF ps 0 q with
    | none=>rfl
    | some u=>rw[hh]at c27;simp at c27
   rw[e2]at e
   refine W.seq<|W.region rfl<|agb rfl rfl rfl<|agb rfl rfl rfl<|pq<|W.ret<|aY ?_
   refine mg (vs:=[_,_]) ?_
   rw[e]
   exact⟨_,[],rfl,⟨.nil,fun _ _=>.nil⟩,.nil ((Sb.trans (.nil hSS) hsb).shut.app (by repeat(first | exact Shut.nil | refine Shut.cons rfl ?_)))⟩
  ·refine W.skip<|aA<|W.seq<|W.region rfl<|qm rfl rfl rfl<|agb rfl rfl rfl<|agb rfl rfl rfl<|pq<|W.ret ?_
   obtain⟨u,e2⟩:∃u,shF ps 0 q=some u:=by
    cases hh:shF ps 0 q with
    | none=>rw[hh]at c27;simp at c27
    | some u=>exact⟨u,rfl⟩
   rw[e2]at e
   refine mg (vs:=[_,_]) ?_
   rw[e]
   exact⟨_,S,rfl,hw1 u e2,.right hsb (by repeat(first | exact Shut.nil | refine Shut.cons rfl ?_))⟩
def enB(ps:List Pn)(l:List Wy)(e:Nat):Bool:=l.any fun w=>decide (w.2=e)&&dY ps w.2
def EnF(ps:List Pn)(q:Int):List Nat×Int:=if kU ps [q]≠0 then([],kU ps [q])else(qsL (enB ps (Ah (dO ps 0) q.toNat)),0)
theorem aio{ps:List Pn}{l:List Wy}{k:Nat}{w:Wy}(h:l[k]? =some w):(fun i=>if i=w.2 then dY ps w.2 else enB ps (l.take k) i)=enB ps (l.take (k+1)):=by
 funext i
 rw[List.take_add_one,h]
 simp only[enB,Option.toList_some,List.any_append,List.any_cons,List.any_nil,Bool.or_false]
 by_cases hi:i=w.2
 ·subst hi
  rw[if_pos rfl]
  simp only[decide_true,Bool.true_and]
  cases ht:dY ps (w.2:Int)with
  | true=>rw[Bool.or_true]
  | false=>
   rw[Bool.or_false,eq_comm]
   refine List.any_eq_false.2 fun u hu=>?_
   simp only[Bool.and_eq_true,decide_eq_true_eq,not_and]
   intro hu2;rw[hu2,ht];decide
 ·rw[if_neg hi,decide_eq_false (fun h=>hi h.symm),Bool.false_and,Bool.or_false]
theorem aiH(main:Side)(h:Hp)(ps:List Pn)(vp:Value)(q:Int)(hf:Sl h Pn.row vp ps):dV prog main ahw #[vp,I q] h [] (fun v A=>∃w S,v= .tuple #[w,I (EnF ps q).2]∧Os dL fH w (zs (EnF ps q).1) S∧Sb S A):=by
 obtain⟨a,cap,rfl⟩:=hf.dA
 refine dV.aG ahW rfl (by show 2≤33;decide) [(0,.slice a ps.length cap),(1,I q)] ⟨rfl,rfl,trivial⟩ ?_
 refine W.seq<|W.region rfl<|agb rfl rfl rfl<|agb rfl rfl rfl<|pq<|W.seq<|W.region rfl<|qm rfl rfl rfl<|qm rfl rfl rfl ?_
 refine Ops.NK (cs:= #[I q]) (fun X5=>?_) rfl
 refine cp (fun h' hE hL=>Am _ h' ps _ [q] _ (hf.ext hE) (Sl.mk (hL X5 _ (.head _)) rfl (Part.all [I q])) (by simp)) ?_
 refine qm rfl rfl rfl<|oq (bD rfl rfl rfl) rfl wn rfl rfl<|oq (bD rfl rfl rfl) rfl wn rfl rfl ?_
 have hcs:∃cs:Array Value,(if kU ps [q]=0 then xJ (.slice a ps.length cap) 0 else LZ)= .agg cs∧cs.size=2∧ones cs.toList=true:=by
  split <;>exact⟨_,rfl,rfl,rfl⟩
 obtain⟨cs,hcs,hcs2,hcs1⟩:=hcs
 rw[hcs]
 refine Ops.new (fun yC=>?_)
 refine Ops.jP (n:=2) (vs:=cs) ?_ (hy:=by rfl) (hn:=hcs2) (h1:=hcs1)
 refine agb rfl rfl rfl<|pq<|W.seq<|W.seq<|W.region rfl<|qm rfl rfl rfl ?_
 refine agW (nG rfl rfl rfl) rfl ?_
 refine pq ?_
 refine W.bC rfl (fun c18=>?_) (fun c18=>?_)
 ·have e:EnF ps q=([],kU ps [q]):=by rw[EnF,if_pos (by simpa using c18)]
  refine W.seq<|W.region rfl<|qm rfl rfl rfl<|agb rfl rfl rfl<|agb rfl rfl rfl<|pq<|W.ret<|aY ?_
  refine mg (vs:=[_,_]) ?_
  rw[e]
  exact⟨_,[],rfl,.nil .nil,.nil (by repeat(first | exact Shut.nil | refine Shut.cons rfl ?_))⟩
 ·have h0:kU ps [q]=0:=by simpa using c18
  obtain⟨hok,hq0,hq12⟩:=Sj h0
  rw[if_pos h0]at hcs
  cases hcs
  obtain⟨q,rfl⟩:∃n:Nat,q=n:=⟨q.toNat,by omega⟩
  have e:EnF ps q=(qsL (enB ps (Ah (dO ps 0) q)),0):=by rw[EnF,if_neg (by simpa using h0),Int.toNat_natCast]
  refine W.skip<|aA<|W.seq<|W.region rfl ?_
  refine Ops.new (fun yD=>?_)
  refine pq<|W.seq<|W.seq<|W.region rfl ?_
  refine ag2 rfl ?_
  refine qm rfl rfl rfl ?_
  refine c0 (fun h' hE hL=>Yt _ h' _ 0 q rfl) (fun v A' hv=>?_)
  obtain⟨b1,b2,rfl,rfl⟩:=hv
  refine pq<|W.block ?_
  refine W.abW (Val:=adG) (xs:=Ah (dO ps 0) q) rfl rfl rfl
   (fun k A=>A=[(yD,.cells (bA (enB ps ((Ah (dO ps 0) q).take k))) aP (0,0)),(yC,.cells #[.slice a ps.length cap,U8 0] bG (0,0)),(X5,.cells #[I q] dL (0,0))])
   (fun k v e A=>False)
   (.tail (.tail .all)) (eqc (by rfl)) (fun h' hE hL=>Qm _ h' ps _ 0 q b1 b2 _ _ _ _ (hf.ext hE) hok (by decide) (by omega) (hL b1 _ (.head _)) (hL b2 _ (.tail _ (.head _)))) ?_ ?_
  ·rintro k p v S A1 hp ⟨vw,rfl,hv1,hvR⟩ rfl l h1 hE1 hL1 hS1
   obtain⟨av,cv,rfl⟩:=(hvR.2 _ hS1).dA
   have hlen:(zs p.1).length=p.1.length:=kT _
   have akj:p.2<13:=by
    obtain⟨met,H⟩:=aee afX (q:=q) (g:=dO ps 0) F9
    exact YU (by omega) (H.path p (by simpa using List.mem_of_getElem? hp))
   have hsz:0+p.2*1<(bA (enB ps ((Ah (dO ps 0) q).take k))).size:=by rw[nX];omega
   refine W.region rfl ?_
   refine Ops.new (fun Uw=>?_)
   refine Ops.jP (vs:= #[.slice av (zs p.1).length cv,I p.2]) ?_
   refine Ops.nil ?_
   refine⟨rfl,rfl,fun h0 hE0 hL0=>?_⟩
   intro hS0
   refine W.block ?_
   refine W.rE (n:=8) rfl ?_
   refine xq 0 (ay rfl rfl) rfl ?_
   refine xq 1 (iQ rfl rfl) rfl ?_
   first | refine xq 2 (Bf rfl rfl) rfl ?_ | refine xq 2 (zi rfl rfl) rfl ?_
   refine xq 3 (ay rfl rfl) rfl ?_
   refine xq 4 (iQ rfl rfl) rfl ?_
   refine Va (i:=5) (fun h' hE hL=>Si _ h' ps _ 0 p.2 (hf.ext (hE0.trans hE)) hok.len) ?_
   first | refine xq 6 (UN rfl rfl rfl) rfl ?_ | refine xq 6 (Qg rfl rfl rfl) rfl ?_
   refine ae (i:=7) rfl an rfl rfl (eS rfl rfl rfl ?_)
   refine⟨.inl (by kernel_rfl),?_⟩
   refine az ?_
   refine dI ?_
   refine⟨rfl,.inl ⟨rfl,_,rfl,.skip rfl (.eq ?_)⟩⟩
   refine eqc ?_
   rw[show 0+p.2*1=p.2 by omega,Og akj,aio hp]
  ·rintro e2 A2 h9 d
   have h9':e2= .normal∧A2=[(yD,.cells (bA (enB ps ((Ah (dO ps 0) q)))) aP (0,0)),(yC,.cells #[.slice a ps.length cap,U8 0] bG (0,0)),(X5,.cells #[I q] dL (0,0))]:=by
    rcases h9 with⟨h1,h2⟩ | ⟨k,p,v,S,B,hp,hv,hF,-⟩
    ·rw[List.take_length]at h2;exact⟨h1,h2⟩
    ·exact hF.elim
   obtain⟨rfl,rfl⟩:=h9'
   have hs1:(bA (enB ps (Ah (dO ps 0) q))).size=13:=nX
   refine dI<|aA<|W.seq<|W.region rfl ?_
   refine ag2 rfl ?_
   refine c0 (fun h' hE hL=>ae1 _ h' _) (fun v A' hv=>?_)
   obtain⟨S,hS,hsb⟩:=hv
   refine agb rfl rfl rfl<|agb rfl rfl rfl<|pq<|W.ret ?_
   refine lvm (mg (vs:=[_,_]) ?_)
   rw[e]
   exact⟨_,S,rfl,hS,.right hsb (by repeat(first | exact Shut.nil | refine Shut.cons rfl ?_))⟩
end Go.aS

/- SyrupShortest. Conditions: none; over the given program. -/
namespace Go.aS
set_option maxRecDepth 100000
set_option maxHeartbeats 4000000
end Go.aS

/- The shortest way, as the document has it: the same as the program's. Conditions: none; over the given program. -/
namespace Go.aS
set_option maxRecDepth 100000
set_option maxHeartbeats 4000000
theorem arX{ps:List Pn}:apM ps (-1)=fun k:Nat=>dY ps k:=funext fun e=>by rw[apM,if_neg (by omega)]
theorem arB{ps:List Pn}{q:Nat}(h:kU ps [(q:Int)]=0)(hq:q<13):ahU ps q=match afV (dO ps 0) (apM ps (-1)) 0 q with | some v=>(v,0) | none=>([],11):=by
 have e:ahU ps q=match(Ah (dO ps 0) q).find? (fun w=>dY ps w.2)with | some w=>(w.1,0) | none=>([],11):=by
  rw[ahU,if_neg (by simpa using h),Int.toNat_natCast] <;>rfl
 have e2:(Ah (dO ps 0) q).find? (fun w=>dY ps w.2)=afW (dO ps 0) (fun k=>dY ps k) 0 q:=by
  rw[afW];refine congrArg (fun f=>List.find? f _) (funext fun w=>?_)
  simp
 rw[e,arX,(agV (g:=dO ps 0) afX (q:=q) F9 (T:=fun k=>dY ps k) (lo:=0) (by omega) hq).1,e2]
 cases afW (dO ps 0) (fun k=>dY ps k) 0 q <;>rfl
theorem arU(main:Side)(h:Hp)(ps:List Pn)(vp:Value)(q:Int)(hf:Sl h Pn.row vp ps):dV prog main aq8 #[vp,I q] h [] (fun v A=>∃w S,v= .tuple #[w,I (ahU ps q).2]∧Os dL fH w (zs (ahU ps q).1) S∧Sb S A):=by
 obtain⟨a,cap,rfl⟩:=hf.dA
 refine dV.aG ark rfl (by show 2≤36;decide) [(0,.slice a ps.length cap),(1,I q)] ⟨rfl,rfl,trivial⟩ ?_
 refine W.seq<|W.region rfl<|agb rfl rfl rfl<|agb rfl rfl rfl<|pq<|W.seq<|W.seq<|W.region rfl<|qm rfl rfl rfl ?_
 refine qm rfl rfl rfl ?_
 refine cp (fun h' hE hL=>ald _ h' ps _ q (hf.ext hE)) ?_
 refine agb rfl rfl rfl<|pq<|W.seq<|W.region rfl<|qm rfl rfl rfl ?_
 refine agW (nG rfl rfl rfl) rfl ?_
 refine pq ?_
 refine W.bC rfl (fun c13=>?_) (fun c13=>?_)
 ·refine W.seq<|W.region rfl<|qm rfl rfl rfl<|agb rfl rfl rfl<|agb rfl rfl rfl<|pq<|W.ret<|aY ?_
  refine mg (vs:=[_,_]) ?_
  rw[ahU,if_pos (by assumption)]
  exact⟨_,[],rfl,.nil .nil,.nil .nil⟩
 ·have h0:kU ps [q]=0:=by simpa using c13
  obtain⟨hok,hq0,hq12⟩:=Sj h0
  have h4:=hok.len
  obtain⟨q,rfl⟩:∃n:Nat,q=n:=⟨q.toNat,by omega⟩
  have Dn:q<13:=by omega
  rw[arB h0 Dn]
  refine W.skip<|aA<|W.seq<|W.region rfl<|qm rfl rfl rfl ?_
  refine agW (eH rfl rfl rfl) rfl ?_
  refine c0 (fun h' hE hL=>aq0 _ h' ps _ (-1) (-1) (hf.ext hE) hok) (fun v A' hv=>?_)
  obtain⟨vs,SL,Fo,hO,hvl,hLA,hsb⟩:=hv
  obtain⟨al,cl,rfl⟩:=hO.dA
  refine Ops.sb (F':=SL++(Fo++[])) (by rw[←List.append_assoc];exact hsb.app .refl) ?_
  refine agb rfl rfl rfl<|pq ?_
  refine JU hO (fun hz hEz hsl _=>?_)
  refine agy hLA.1 (fun hz2 agM hL2=>?_)
  replace hsl:=hsl.ext agM
  replace hf:=hf.ext (hEz.trans agM)
  have ahc:∀k,k<14→∃β E z,vs[k]? =some (svB β)∧hz2 β=some (.cells (bA (apy ps (-1) (apM ps (-1)) k)) E z):=fun k hk=>by
   obtain⟨β,h1,h2⟩:=hLA.2 k hk
   exact⟨β,_,_,h1,hL2 _ _ h2⟩
  refine W.seq<|W.seq<|W.region rfl<|agb rfl rfl rfl<|pq<|W.block ?_
  refine W.loop (σ:=Nat) (fun n=>0≤n∧n≤14∧∀j,0≤j→j<n→P7 (dO ps 0) (apM ps (-1)) j q=false) (fun n=>[(8,I n),(7,.slice al vs.length cl),(0,.slice a ps.length cap),(1,I q)]) (fun _=>[]) (fun n=>14-n) 0 ⟨Nat.le_refl _,by omega,fun j h1 h2=>by omega⟩ ⟨rfl,rfl,rfl,rfl,trivial⟩ .refl ?_
  rintro n ⟨hn1,hn,hno⟩
  refine W.seq<|W.seq<|W.region rfl<|qm rfl rfl rfl<|qm rfl rfl rfl ?_
  refine agW (dM rfl rfl) rfl ?_
  refine agW (fO rfl rfl rfl) rfl ?_
  refine pq ?_
  refine W.bC rfl (fun c21=>?_) (fun c21=>?_)
  ·have agu:n<14:=by omega
   obtain⟨Fe,Em,zm,hvm,hbm⟩:=ahc n agu
   obtain⟨bl,arS,ccl,El,fzl,hel,hbl,-,-,hzl⟩:=hsl.at hvm
   cases hel
   have hxl:ccl[arS+n*1]? =some (V9 Fe):=hzl 0 (by decide)
   clear hzl
   have hg2:(bA (apy ps (-1) (apM ps (-1)) n))[0+q*1]? =some (.bool (apy ps (-1) (apM ps (-1)) n q)):=by rw[show 0+q*1=q by omega];exact L9 Dn
   refine W.skip<|aA<|W.seq<|W.block<|W.seq<|W.region rfl<|qm rfl rfl rfl<|qm rfl rfl rfl ?_
   refine ag3 rfl ?_
   refine agX rfl ?_
   refine qm rfl rfl rfl ?_
   refine ag3 rfl ?_
   refine agX rfl ?_
   refine pq ?_
   refine W.cond rfl (fun c30=>?_) (fun c30=>?_)
   ·refine W.seq<|W.region rfl<|qm rfl rfl rfl<|qm rfl rfl rfl<|qm rfl rfl rfl<|qm rfl rfl rfl ?_
    rw[ap2 h4]at c30
    refine c0 (fun h' hE hL=>arq _ h' ps _ (-1) (apM ps (-1)) vs _ q n (hf.ext hE) hok (hsl.ext hE) (fun k hk=>by
     obtain⟨β,E,z,h1,h2⟩:=ahc k hk
     exact⟨β,E,z,h1,hE.1 _ _ h2⟩) Dn (by omega)) (fun v A' hv=>?_)
    obtain⟨Sw,hw,arI⟩:=hv
    rw[aqU h4 c30]at hw
    refine agb rfl rfl rfl<|agb rfl rfl rfl<|pq<|W.ret<|cZ<|aY<|aY<|cZ<|aY ?_
    refine mg (vs:=[_,_]) ?_
    rw[arb agu hn1 hno c30]
    exact⟨_,Sw,rfl,hw,by simpa using arI⟩
   ·refine W.skip<|dI<|aA<|W.region rfl<|qm rfl rfl rfl ?_
    refine ag1 rfl ?_
    refine agb rfl rfl rfl<|pq ?_
    refine⟨rfl,n+1,⟨by omega,agu,fun j h1 h2=>?_⟩,by omega,⟨rfl,rfl,rfl,rfl,trivial⟩,.refl⟩
    rw[ap2 h4]at c30
    rcases Nat.lt_or_ge j n with h3 | h3
    ·exact hno j h1 h3
    ·obtain rfl:j=n:=by omega
     simpa using c30
  ·obtain rfl:n=14:=by omega
   refine W.exit<|bP<|bP<|gG<|aA<|W.seq<|W.region rfl<|agb rfl rfl rfl<|agb rfl rfl rfl<|Ops.nil ?_
   refine aA<|W.ret ?_
   refine mg (vs:=[_,_]) ?_
   rw[aq3 hno]
   exact⟨_,[],rfl,.nil .nil,.nil .nil⟩
end Go.aS

/- For ever, as the document has it. Conditions: none; over the given program. -/
namespace Go.aS
set_option maxRecDepth 100000
set_option maxHeartbeats 4000000
end Go.aS

/- The longest way and how many ways there are, as the document has them. Conditions: none; over the given program. -/
namespace Go.aS
set_option maxRecDepth 100000
set_option maxHeartbeats 4000000
theorem asx{f:Nat→Bool}{n k:Nat}(hk:k<n)(h:f k=true):((List.range n).filter f)[((List.range k).filter f).length]? =some k:=by
 have e:List.range n=List.range k++((List.range (n-k)).map (k+ ·)):=by rw[←List.range_add];congr 1;omega
 obtain⟨d,hd⟩:∃d,n-k=d+1:=⟨n-k-1,by omega⟩
 rw[e,List.filter_append,List.getElem?_append_right (Nat.le_refl _),Nat.sub_self,hd,List.range_succ_eq_map,List.map_cons,List.filter_cons,Nat.add_zero,if_pos h]
 rfl
def tkn(ps:List Pn)(q i:Nat):Nat:=((List.range i).filter fun i=>P9 ps q i).length
theorem asR{ps:List Pn}{q i:Nat}(h4:ps.length≤4)(hi:i<ps.length)(h:P9 ps q i=true):(dO ps 0 q)[tkn ps q i]? =some (i,gy ps i q):=by
 rw[dO,List.getElem?_map,ale h4,tkn,asx hi h];rfl
theorem asy{ps:List Pn}{q i:Nat}(h:P9 ps q i=true):tkn ps q (i+1)=tkn ps q i+1:=by
 rw[tkn,List.range_succ,List.filter_append,List.length_append,List.filter_cons,if_pos h];rfl
theorem ase{ps:List Pn}{q i:Nat}(h:P9 ps q i=false):tkn ps q (i+1)=tkn ps q i:=by
 rw[tkn,List.range_succ,List.filter_append,List.length_append,List.filter_cons,if_neg (by simp[h])];rfl
theorem asz{ps:List Pn}{q:Nat}(h4:ps.length≤4):tkn ps q ps.length=(dO ps 0 q).length:=by
 rw[dO,List.length_map,ale h4,tkn]
theorem arY(main:Side)(ps:List Pn)(vp:Value)(hok:iP ps):∀(n q:Nat) (h:Hp),Sl h Pn.row vp ps→q<13→n≤13→dD (dO ps 0) n q=false→Pu prog main arj #[vp,I q] h (I (og (dO ps 0) (fun k=>dY ps k) q).1):=by
 intro n
 induction n with
 | zero=>intro q h hf hq hn hw;cases hw
 | succ n ih=>
  intro q h hf hq hn hw
  obtain⟨a,cap,rfl⟩:=hf.dA
  have h4:=hok.len
  have hac:=fun j=>xM (T:=fun k=>dY ps k) (j:=j) (fun k=>EK) hw (by omega)
  have hall:=JZ (T:=fun k=>dY ps k) hw (by omega)
  rw[←asz h4]at hall
  refine dV.aG arA rfl (by show 2≤31;decide) [(0,.slice a ps.length cap),(1,I q)] ⟨rfl,rfl,trivial⟩ ?_
  refine W.seq<|W.region rfl<|agb rfl rfl rfl<|pq<|W.seq<|W.region rfl<|agb rfl rfl rfl<|pq ?_
  refine W.seq<|W.seq<|W.region rfl<|agb rfl rfl rfl<|pq<|W.block ?_
  refine W.loop (σ:=Nat) (fun i=>i≤ps.length) (fun i=>[(6,I i),(5,I (oh (dO ps 0) (fun k=>dY ps k) q (tkn ps q i)).1),(0,.slice a ps.length cap),(1,I q)]) (fun _=>[]) (fun i=>ps.length-i) 0 (Nat.zero_le _) ⟨rfl,rfl,rfl,rfl,trivial⟩ .refl ?_
  rintro i hi
  refine W.seq<|W.seq<|W.region rfl<|qm rfl rfl rfl<|qm rfl rfl rfl ?_
  refine agW (dM rfl rfl) rfl ?_
  refine agW (fO rfl rfl rfl) rfl ?_
  refine pq ?_
  refine W.bC rfl (fun c10=>?_) (fun c10=>?_)
  ·have hil:i<ps.length:=by omega
   obtain⟨p,hp,-⟩:=has hil
   have hpi:=hok.pan p (List.mem_of_getElem? hp)
   obtain⟨b,off,c,E2,fz,hv,hbb,hx,hy,hz⟩:=hf.at hp
   cases hv
   have hx':c.extract (off+i*3) (off+i*3+3)= #[I p.lo,I p.hi,I p.sh]:=hx
   clear hx hz
   have hta:P9 ps q i=p.takes q:=by unfold P9;rw[hp]
   have hou:=Vl (q:=q) hp
   have SH:gy ps i q<13:=AZ
   refine W.skip<|aA<|W.seq<|W.block<|W.seq<|W.region rfl<|qm rfl rfl rfl<|qm rfl rfl rfl ?_
   refine ag3 rfl ?_
   refine ag2 rfl ?_
   refine qm rfl rfl rfl ?_
   refine cp (fun h' hE hL=>aik _ h' p q) ?_
   refine pq ?_
   refine W.cond rfl (fun c18=>?_) (fun c18=>?_)
   ·refine W.region rfl<|qm rfl rfl rfl<|qm rfl rfl rfl<|qm rfl rfl rfl<|qm rfl rfl rfl ?_
    refine ag3 rfl ?_
    refine ag2 rfl ?_
    refine qm rfl rfl rfl ?_
    refine cp (fun h' hE hL=>ab_ _ h' p q ⟨by omega,by omega⟩ ⟨by omega,by omega⟩) ?_
    rw[←hou]
    have htt:P9 ps q i=true:=by rw[hta];assumption
    have hat:=asR h4 hil htt
    have hwo:dD (dO ps 0) n (gy ps i q)=false:=wz hw (List.mem_of_getElem? hat)
    have ha1:=hac (tkn ps q i+1)
    rw[A8 hat]at ha1
    simp only[yE]at ha1
    refine cp (fun h' hE hL=>ih (gy ps i q) h' (hf.ext hE) SH (by omega) hwo) ?_
    refine ag1 rfl ?_
    refine agW (y8 rfl rfl rfl) rfl ?_
    refine agb rfl rfl rfl<|Ops.nil<|dI<|aA<|W.region rfl<|qm rfl rfl rfl ?_
    refine ag1 rfl ?_
    refine agb rfl rfl rfl<|pq ?_
    refine⟨rfl,i+1,hil,by omega,⟨rfl,lk rfl ?_,rfl,rfl,trivial⟩,.refl⟩
    rw[asy htt,A8 hat]
    simp only[yE]
    show I _=I _
    congr 1
    omega
   ·refine W.skip<|dI<|aA<|W.region rfl<|qm rfl rfl rfl ?_
    refine ag1 rfl ?_
    refine agb rfl rfl rfl<|pq ?_
    refine⟨rfl,i+1,hil,by omega,⟨rfl,lk rfl ?_,rfl,rfl,trivial⟩,.refl⟩
    rw[ase (by rw[hta];simpa using c18)]
  ·obtain rfl:i=ps.length:=by omega
   refine W.exit<|bP<|bP<|gG<|aA<|W.seq<|W.region rfl<|qm rfl rfl rfl<|agb rfl rfl rfl<|Ops.nil ?_
   refine aA<|W.ret ?_
   refine uZ ?_
   rw[hall] <;>rfl
theorem arZ(main:Side)(h:Hp)(ps:List Pn)(vp:Value)(q:Int)(hf:Sl h Pn.row vp ps):Pu prog main ari #[vp,I q] h (.tuple #[I (qh ps q).1.1,I (qh ps q).2]):=by
 obtain⟨a,cap,rfl⟩:=hf.dA
 refine dV.aG arv rfl (by show 2≤21;decide) [(0,.slice a ps.length cap),(1,I q)] ⟨rfl,rfl,trivial⟩ ?_
 refine W.seq<|W.region rfl<|agb rfl rfl rfl<|agb rfl rfl rfl<|pq<|W.seq<|W.seq<|W.region rfl<|qm rfl rfl rfl ?_
 refine qm rfl rfl rfl ?_
 refine cp (fun h' hE hL=>ald _ h' ps _ q (hf.ext hE)) ?_
 refine agb rfl rfl rfl<|pq<|W.seq<|W.region rfl<|qm rfl rfl rfl ?_
 refine agW (nG rfl rfl rfl) rfl ?_
 refine pq ?_
 refine W.bC rfl (fun c11=>?_) (fun c11=>?_)
 ·refine W.seq<|W.region rfl<|qm rfl rfl rfl<|agb rfl rfl rfl<|agb rfl rfl rfl<|pq<|W.ret<|aY ?_
  refine mg (vs:=[_,_]) ⟨?_,.nil⟩
  rw[qh,if_pos (by assumption)] <;>rfl
 ·have h0:kU ps [q]=0:=by simpa using c11
  obtain⟨hok,hq0,hq12⟩:=Sj h0
  have h4:=hok.len
  obtain⟨q,rfl⟩:∃n:Nat,q=n:=⟨q.toNat,by omega⟩
  have Dn:q<13:=by omega
  have hx:(bA (apy ps (-1) (fun _=>true) 13))[0+q*1]? =some (.bool (dD (dO ps 0) 13 q)):=by rw[show 0+q*1=q by omega,L9 Dn,ap2 h4] <;>rfl
  refine W.skip<|aA<|W.seq<|W.seq<|W.region rfl<|qm rfl rfl rfl ?_
  refine c0 (fun h' hE hL=>aqY _ h' ps _ (hf.ext hE) hok) (fun v A' hv=>?_)
  obtain⟨β,rfl,hsb⟩:=hv
  refine Ops.sb (F':=[(β,bsO (apy ps (-1) (fun _=>true) 13))]++[]) (hsb.app .refl) ?_
  refine qm rfl rfl rfl ?_
  refine ag3 rfl ?_
  refine agX rfl ?_
  refine pq ?_
  refine W.cond rfl (fun c17=>?_) (fun c17=>?_)
  ·refine W.seq<|W.region rfl<|agb rfl rfl rfl<|agb rfl rfl rfl<|pq<|W.ret<|aY ?_
   refine mg (vs:=[_,_]) ⟨?_,.cons rfl .nil⟩
   rw[qh,if_neg (by assumption),Int.toNat_natCast,if_pos (by assumption)] <;>rfl
  ·refine W.skip<|aA<|W.seq<|W.region rfl<|qm rfl rfl rfl<|qm rfl rfl rfl ?_
   refine cp (fun h' hE hL=>arY _ ps _ hok 13 q h' (hf.ext hE) Dn (Nat.le_refl _) (by simpa using c17)) ?_
   refine agb rfl rfl rfl<|agb rfl rfl rfl<|pq<|W.ret ?_
   refine mg (vs:=[_,_]) ⟨?_,.cons rfl .nil⟩
   rw[qh,if_neg (by assumption),Int.toNat_natCast,if_neg (by rw[c17];simp)] <;>rfl
end Go.aS

/- How many ways there are, as the document has it. Conditions: none; over the given program. -/
namespace Go.aS
set_option maxRecDepth 100000
set_option maxHeartbeats 4000000
end Go.aS
