/- Treacle, as the document has it. Conditions: none; over the given program. (And 36 texts more.) -/
import Derived.Test.YtkkdgffaohidnaaGreatDoorR14
import Derived.Test.YtkkdgffaohidnaaGreatDoorR13
import Derived.Test.YtkkdgffaohidnaaGreatDoorR10
import Derived.Test.YtkkdgffaohidnaaGreatDoorR09
import Derived.Test.YtkkdgffaohidnaaGreatDoorR11
set_option linter.unusedVariables false
set_option linter.unusedSimpArgs false
set_option linter.unusedSectionVars false

/- Treacle, as the document has it. Conditions: none; over the given program. -/
namespace Go.aS
set_option maxRecDepth 100000
set_option maxHeartbeats 4000000
theorem aii(main:Side)(h:Hp)(n lo hi:Int):Pu prog main ahB #[I n,I lo,I hi] h (.bool (decide (lo≤n)&&decide (n≤hi))):=by
 refine dV.aG ah1 rfl (by show 3≤15;decide) [(0,I n),(1,I lo),(2,I hi)] ⟨rfl,rfl,rfl,trivial⟩ ?_
 refine W.seq<|W.region rfl<|agb rfl rfl rfl<|pq<|W.seq<|W.region rfl<|qm rfl rfl rfl<|qm rfl rfl rfl ?_
 refine agW (IJ rfl rfl rfl) rfl ?_
 refine qm rfl rfl rfl ?_
 refine Ops.ask (fun ae5=>?_) (fun ae5=>?_)
 ·refine oq (aN rfl rfl) rfl (ak rfl rfl rfl) rfl rfl ?_
  refine oq (aN rfl rfl) rfl (ak rfl rfl rfl) rfl rfl ?_
  refine oq (Lr rfl rfl rfl) rfl (ak rfl rfl rfl) rfl rfl ?_
  refine agW (dG rfl rfl rfl) rfl ?_
  refine agb rfl rfl rfl<|pq<|W.ret ?_
  refine uZ ?_
  exact congrArg Value.bool (by simp[*])
 ·refine Ops.no ?_
  refine Ops.no ?_
  refine Ops.no ?_
  refine agW (iH rfl rfl rfl) rfl ?_
  refine agb rfl rfl rfl<|pq<|W.ret ?_
  refine uZ ?_
  exact congrArg Value.bool (by simp[*])
theorem aik(main:Side)(h:Hp)(p:Pn)(q:Int):Pu prog main ahz #[p.val,I q] h (.bool (p.takes q)):=by
 refine dV.aG ah0 rfl (by show 2≤11;decide) [(0,p.val),(1,I q)] ⟨rfl,rfl,trivial⟩ ?_
 refine W.seq<|W.region rfl ?_
 refine Ops.box (cs:= #[I p.lo,I p.hi,I p.sh]) (fun yR=>?_)
 refine agb rfl rfl rfl<|pq<|W.seq<|W.region rfl<|qm rfl rfl rfl ?_
 refine agY rfl ?_
 refine agX rfl ?_
 refine agY rfl ?_
 refine agX rfl ?_
 refine cp (fun h' hE hL=>aii _ h' q p.lo p.hi) ?_
 refine agb rfl rfl rfl<|pq<|W.ret ?_
 exact uZ rfl
theorem ah6(main:Side)(h:Hp)(ps:List Pn)(vp:Value)(q:Int)(hf:Sl h Pn.row vp ps)(hn:ps.length≤1000):Pu prog main ahr #[vp,I q] h (.bool (dY ps q)):=by
 obtain⟨a,cap,rfl⟩:=hf.dA
 refine dV.aG ahS rfl (by show 2≤18;decide) [(0,.slice a ps.length cap),(1,I q)] ⟨rfl,rfl,trivial⟩ ?_
 refine W.seq<|W.region rfl<|agb rfl rfl rfl<|pq<|W.seq<|W.seq<|W.region rfl<|agb rfl rfl rfl<|Ops.nil ?_
 refine aA<|W.block ?_
 refine W.loop (σ:=Nat) (fun i=>i≤ps.length∧dY ps q=dY (ps.drop i) q) (fun i=>[(5,I i),(0,.slice a ps.length cap),(1,I q)]) (fun _=>[]) (fun i=>ps.length-i) 0 ⟨Nat.zero_le _,rfl⟩ ⟨rfl,rfl,rfl,trivial⟩ .refl ?_
 rintro i ⟨hi,ht⟩
 refine W.seq<|W.seq<|W.region rfl<|qm rfl rfl rfl<|qm rfl rfl rfl ?_
 refine agW (dM rfl rfl) rfl ?_
 refine agW (fO rfl rfl rfl) rfl ?_
 refine pq ?_
 refine W.bC rfl (fun c9=>?_) (fun c9=>?_)
 ·have hil:i<ps.length:=by omega
  obtain⟨p,hp,hdr⟩:=has hil
  rw[hdr,show dY (p::ps.drop (i+1)) q=(!p.takes q&&dY (ps.drop (i+1)) q)from rfl]at ht
  obtain⟨b,off,c,E,fz,hv,hb,hx,hy,hz⟩:=hf.at hp
  cases hv
  have hx':c.extract (off+i*3) (off+i*3+3)= #[I p.lo,I p.hi,I p.sh]:=hx
  clear hx
  refine W.skip<|aA<|W.seq<|W.block<|W.seq<|W.region rfl<|qm rfl rfl rfl<|qm rfl rfl rfl ?_
  refine ag3 rfl ?_
  refine ag2 rfl ?_
  refine qm rfl rfl rfl ?_
  refine cp (fun h' hE hL=>aik _ h' p q) ?_
  refine pq ?_
  refine W.cond rfl (fun c17=>?_) (fun c17=>?_)
  ·refine W.seq<|W.region rfl<|agb rfl rfl rfl<|pq<|W.ret<|cZ<|aY<|aY<|cZ ?_
   refine aY ?_
   refine uZ ?_
   rw[ht,c17];rfl
  ·refine W.skip<|dI<|aA<|W.region rfl<|qm rfl rfl rfl ?_
   refine ag1 rfl ?_
   refine agb rfl rfl rfl<|pq ?_
   refine⟨rfl,i+1,⟨hil,?_⟩,by omega,⟨rfl,rfl,rfl,trivial⟩,.refl⟩
   rw[ht,show p.takes q=false by simpa using c17];rfl
 ·refine W.exit<|bP<|bP<|gG<|aA<|W.seq<|W.region rfl<|agb rfl rfl rfl<|pq ?_
  refine W.ret ?_
  obtain rfl:i=ps.length:=by omega
  refine uZ ?_
  rw[ht,List.drop_length];rfl
end Go.aS

/- Pans that are checked, and which of them take a syrup, as the document has it and as the program has it. Conditions: none; over the given program. -/
namespace Go.aS
set_option maxRecDepth 100000
set_option maxHeartbeats 4000000
theorem akO(n lo hi:Int):(!(decide (lo≤n)&&decide (n≤hi)))=decide (outs n lo hi):=by
 rw[←Bool.decide_and,←decide_not]
 exact decide_eq_decide.2 (by unfold outs;omega)
theorem ak9(main:Side)(h:Hp)(ps:List Pn)(vp:Value)(hf:Sl h Pn.row vp ps):Pu prog main akx #[vp] h (I (nV ps)):=by
 obtain⟨a,cap,rfl⟩:=hf.dA
 refine dV.aG akM rfl (by show 1≤37;decide) [(0,.slice a ps.length cap)] ⟨rfl,trivial⟩ ?_
 refine W.seq<|W.region rfl<|agb rfl rfl rfl<|pq<|W.seq<|W.seq<|W.region rfl<|qm rfl rfl rfl ?_
 refine agW (dM rfl rfl) rfl ?_
 refine agW (rC rfl rfl rfl) rfl ?_
 refine pq ?_
 refine W.bC rfl (fun c7=>?_) (fun c7=>?_)
 ·refine W.seq<|W.region rfl<|agb rfl rfl rfl<|pq<|W.ret<|aY ?_
  refine uZ ?_
  show I _=I _;congr 1;rw[nV,if_pos (by omega)]
 ·have h4:ps.length≤4:=by omega
  have hcp:nV ps=lX ps:=by rw[nV,if_neg (by omega)]
  refine W.skip<|aA<|W.seq<|W.seq<|W.region rfl<|agb rfl rfl rfl<|pq<|W.block ?_
  refine W.loop (σ:=Nat) (fun i=>i≤ps.length∧lX ps=lX (ps.drop i)) (fun i=>[(3,I i),(0,.slice a ps.length cap)]) (fun _=>[]) (fun i=>ps.length-i) 0 ⟨Nat.zero_le _,rfl⟩ ⟨rfl,rfl,trivial⟩ .refl ?_
  rintro i ⟨hi,ht⟩
  refine W.seq<|W.seq<|W.region rfl<|qm rfl rfl rfl<|qm rfl rfl rfl ?_
  refine agW (dM rfl rfl) rfl ?_
  refine agW (fO rfl rfl rfl) rfl ?_
  refine pq ?_
  refine W.bC rfl (fun c11=>?_) (fun c11=>?_)
  ·have hil:i<ps.length:=by omega
   obtain⟨p,hp,hdr⟩:=has hil
   rw[hdr,lX]at ht
   obtain⟨b,off,c,E,fz,hv,hb,hx,hy,hz⟩:=hf.at hp
   cases hv
   have hx':c.extract (off+i*3) (off+i*3+3)= #[I p.lo,I p.hi,I p.sh]:=hx
   clear hx
   refine W.skip<|aA<|W.seq<|W.block<|W.seq<|W.region rfl<|qm rfl rfl rfl<|qm rfl rfl rfl ?_
   refine ag3 rfl ?_
   refine ag2 rfl ?_
   refine Ops.new (fun wC=>?_)
   refine Ops.jP (vs:= #[I p.lo,I p.hi,I p.sh]) ?_
   refine pq<|W.seq<|W.seq<|W.region rfl ?_
   refine agY rfl ?_
   refine agX rfl ?_
   refine cp (fun h' hE hL=>aii _ h' p.lo 0 12) ?_
   refine KU (xU rfl rfl) (congrArg Value.bool (akO p.lo 0 12)) rfl wn rfl rfl ?_
   refine qm rfl rfl rfl ?_
   refine Ops.ask (fun alJ=>?_) (fun alJ=>?_)
   ·refine Ops.no ?_
    refine Ops.no ?_
    refine Ops.no ?_
    refine Ops.no ?_
    refine agW (dG rfl rfl rfl) rfl ?_
    refine pq ?_
    refine W.dW ?_
    refine W.seq<|W.region rfl<|agb rfl rfl rfl<|pq<|W.ret<|aY<|cZ<|aY<|aY ?_
    refine cZ<|aY ?_
    have hk:gW p=1:=by rw[gW,if_pos (by first | exact .inl (by assumption) | exact .inr (by assumption))]
    refine uZ ?_
    show I _=I _;congr 1;rw[hcp,ht,hk];rfl
   ·refine oq (ay rfl rfl) rfl (ak rfl rfl rfl) rfl rfl ?_
    refine oq (iQ rfl rfl) rfl (ak rfl rfl rfl) rfl rfl ?_
    refine cp (g:=some _) (fun h' hE hL=>aii _ h' p.hi 0 12) ?_
    refine KU (xU rfl rfl) (congrArg Value.bool (akO p.hi 0 12)) rfl (ak rfl rfl rfl) rfl rfl ?_
    refine agW (iH rfl rfl rfl) rfl ?_
    refine pq ?_
    refine W.bC rfl (fun c27=>?_) (fun c27=>?_)
    ·refine W.seq<|W.region rfl<|agb rfl rfl rfl<|pq<|W.ret<|aY<|cZ<|aY<|aY ?_
     refine cZ<|aY ?_
     have hk:gW p=1:=by rw[gW,if_pos (by first | exact .inl (by assumption) | exact .inr (by assumption))]
     refine uZ ?_
     show I _=I _;congr 1;rw[hcp,ht,hk];rfl
    ·refine W.skip<|aA<|W.seq<|W.seq<|W.region rfl ?_
     refine agY rfl ?_
     refine agX rfl ?_
     refine agY rfl ?_
     refine agX rfl ?_
     refine agW (rC rfl rfl rfl) rfl ?_
     refine pq ?_
     refine W.bC rfl (fun c32=>?_) (fun c32=>?_)
     ·refine W.seq<|W.region rfl<|agb rfl rfl rfl<|pq<|W.ret<|aY<|cZ<|aY<|aY ?_
      refine cZ<|aY ?_
      have hk:gW p=5:=by rw[gW,if_neg (by intro h;rcases h with h | h <;>contradiction),if_pos (by omega)]
      refine uZ ?_
      show I _=I _;congr 1;rw[hcp,ht,hk];rfl
     ·refine W.skip<|aA<|W.seq<|W.region rfl ?_
      refine agY rfl ?_
      refine agX rfl ?_
      refine cp (fun h' hE hL=>aii _ h' p.sh (-6) 6) ?_
      refine KU (xU rfl rfl) (congrArg Value.bool (akO p.sh (-6) 6)) rfl wn rfl rfl ?_
      refine pq ?_
      refine W.bC rfl (fun c36=>?_) (fun c36=>?_)
      ·refine W.seq<|W.region rfl<|agb rfl rfl rfl<|pq<|W.ret<|cZ<|aY<|aY<|cZ ?_
       refine aY ?_
       have hk:gW p=1:=by rw[gW,if_neg (by intro h;rcases h with h | h <;>contradiction),if_neg (by omega),if_pos (by assumption)]
       refine uZ ?_
       show I _=I _;congr 1;rw[hcp,ht,hk];rfl
      ·refine W.skip<|dI<|aA<|W.region rfl<|qm rfl rfl rfl ?_
       refine ag1 rfl ?_
       refine agb rfl rfl rfl<|pq ?_
       have hk:gW p=0:=by rw[gW,if_neg (by intro h;rcases h with h | h <;>contradiction),if_neg (by omega),if_neg (by assumption)]
       exact⟨rfl,i+1,⟨hil,by rw[ht,hk];rfl⟩,by omega,⟨rfl,rfl,trivial⟩,.skip rfl .refl⟩
  ·refine W.exit<|bP<|bP<|gG<|aA<|W.seq<|W.region rfl<|agb rfl rfl rfl<|pq ?_
   refine W.ret ?_
   obtain rfl:i=ps.length:=by omega
   refine uZ ?_
   show I _=I _;congr 1;rw[hcp,ht,List.drop_length];rfl
theorem akP{ps:List Pn}{q:Int}:kU ps [q]=if nV ps≠0 then nV ps else if outs q 0 12 then 1 else 0:=by
 unfold kU;simp
theorem ald(main:Side)(h:Hp)(ps:List Pn)(vp:Value)(q:Int)(hf:Sl h Pn.row vp ps):Pu prog main aky #[vp,I q] h (I (kU ps [q])):=by
 obtain⟨a,cap,rfl⟩:=hf.dA
 refine dV.aG akN rfl (by show 2≤14;decide) [(0,.slice a ps.length cap),(1,I q)] ⟨rfl,rfl,trivial⟩ ?_
 refine W.seq<|W.region rfl<|agb rfl rfl rfl<|pq<|W.seq<|W.seq<|W.region rfl<|qm rfl rfl rfl ?_
 refine cp (fun h' hE hL=>ak9 _ h' ps _ (hf.ext hE)) ?_
 refine agb rfl rfl rfl<|pq<|W.seq<|W.region rfl<|qm rfl rfl rfl ?_
 refine agW (nG rfl rfl rfl) rfl ?_
 refine pq ?_
 refine W.bC rfl (fun c9=>?_) (fun c9=>?_)
 ·refine W.seq<|W.region rfl<|qm rfl rfl rfl<|agb rfl rfl rfl<|pq<|W.ret<|aY ?_
  refine uZ ?_
  show I _=I _;congr 1;rw[akP,if_pos (by assumption)]
 ·refine W.skip<|aA<|W.seq<|W.seq<|W.region rfl<|qm rfl rfl rfl ?_
  refine cp (fun h' hE hL=>aii _ h' q 0 12) ?_
  refine KU (xU rfl rfl) (congrArg Value.bool (akO q 0 12)) rfl wn rfl rfl ?_
  refine pq ?_
  refine W.bC rfl (fun c13=>?_) (fun c13=>?_)
  ·refine W.seq<|W.region rfl<|agb rfl rfl rfl<|pq<|W.ret<|aY ?_
   refine uZ ?_
   show I _=I _;congr 1;rw[akP,if_neg (by assumption),if_pos (by assumption)]
  ·refine W.skip<|aA<|W.seq<|W.region rfl<|agb rfl rfl rfl<|pq<|W.ret ?_
   refine uZ ?_
   show I _=I _;congr 1;rw[akP,if_neg (by assumption),if_neg (by assumption)]
theorem ale{ps:List Pn}{q:Nat}(h4:ps.length≤4):bQ ps 0 q=(List.range ps.length).filter fun i=>P9 ps q i:=by
 have e:List.range 4=List.range ps.length++(List.range (4-ps.length)).map (ps.length+ ·):=by
  rw[←List.range_add];congr 1;omega
 rw[bQ,e,List.filter_append]
 have h1:((List.range (4-ps.length)).map (ps.length+ ·)).filter (fun i=>P9 ps q i&& !(0:Nat).testBit i)=[]:=by
  refine List.filter_eq_nil_iff.2 fun i hi=>?_
  obtain⟨j,-,rfl⟩:=List.mem_map.1 hi
  unfold P9
  rw[List.getElem?_eq_none (by omega)];simp
 rw[h1,List.append_nil]
 exact List.filter_congr fun i _=>by simp
end Go.aS

/- A way through the pans, as the document has it. Conditions: none; over the given program. -/
namespace Go.aS
set_option maxRecDepth 100000
set_option maxHeartbeats 4000000
end Go.aS

/- Operations that come up in any order and only add to what is owned. Conditions: none; over any program. -/
namespace Go.aS
abbrev Spc:=Nat×Nat×(Value→ah→Prop)
def waits(ops:Array Oper):Nat→Nat→Nat→Bool
 | 0,_,_=>false
 | n+1,k,b=>match ops[k]? with | some o=>o.after.any fun e=>iG e&&(Nat.beq e.on b|| waits ops n e.on b) | none=>false
structure Y4(ops:Array Oper)(listed:Nat)(B:List Nat):Prop where
 cl:Closed ops listed
 low:∀k o,ops[k]? =some o→∀e∈o.after,iG e=true→e.on<k
 or:∀k,k<ops.size→listed.testBit k=false→k∈B∨∀b∈B,waits ops 6 k b=true
 un:∀b∈B,b<ops.size∧listed.testBit b=false
 nd:B.Nodup

theorem Y4.some{ops:Array Oper}{listed:Nat}{B:List Nat}(h:Y4 ops listed B){b:Nat}(hb:b∈B):qx ops listed≠[]:=by
 have key:∀(n k:Nat),k<n→k<ops.size→listed.testBit k=false→∃i,Fq ops listed i=true:=by
  intro n
  induction n with
  | zero=>intro k hk;omega
  | succ n ih=>
   intro k hk hlt hl
   by_cases hr:Fq ops listed k=true
   ·exact⟨k,hr⟩
   ·simp only[Fq,Array.getElem?_eq_getElem hlt,hl,Bool.not_false,Bool.true_and,Array.all_eq_true_iff_forall_mem,Bool.or_eq_true,Bool.not_eq_true']at hr
    have:∃e∈(ops[k]).after,iG e=true∧listed.testBit e.on=false:=by
     refine Classical.byContradiction fun hn=>hr fun e he=>?_
     cases hbe:iG e with
     | false=>exact .inl rfl
     | true=>
      cases ht:listed.testBit e.on with
      | true=>exact .inr rfl
      | false=>exact absurd ⟨e,he,hbe,ht⟩ hn
    obtain⟨e,he,h1,h2⟩:=this
    have:=h.low k _ (Array.getElem?_eq_getElem hlt) e he h1
    exact ih e.on (by omega) (by omega) h2
 obtain⟨i,hi⟩:=key (b+1) b (by omega) (h.un b hb).1 (h.un b hb).2
 intro e
 have:=o8.2 hi
 rw[e]at this
 cases this

theorem Y4.step{ops:Array Oper}{listed j:Nat}{B1 B2:List Nat}(h:Y4 ops listed (B1++j::B2))(hj:Fq ops listed j=true):Y4 ops (listed||| 2 ^ j) (B1++B2):=by
 have hnd:j∉B1++B2:=by
  have:=(List.perm_middle (a:=j) (l₁:=B1) (l₂:=B2)).nodup_iff.1 h.nd
  exact(List.nodup_cons.1 this).1
 refine⟨h.cl.step hj,h.low,fun k hk hl=>?_,fun b hb=>?_,?_⟩
 ·rw[testBit_or,Bool.or_eq_false_iff]at hl
  have hne:j≠k:=by simpa using hl.2
  rcases h.or k hk hl.1 with h' | h'
  ·left
   rcases List.mem_append.1 h' with h' | h'
   ·exact List.mem_append_left _ h'
   ·rcases List.mem_cons.1 h' with h' | h'
    ·exact absurd h'.symm hne
    ·exact List.mem_append_right _ h'
  ·right
   intro b hb
   refine h' b ?_
   rcases List.mem_append.1 hb with hb | hb
   ·exact List.mem_append_left _ hb
   ·exact List.mem_append_right _ (List.mem_cons_of_mem _ hb)
 ·have hb':b∈B1++j::B2:=by
   rcases List.mem_append.1 hb with hb | hb
   ·exact List.mem_append_left _ hb
   ·exact List.mem_append_right _ (List.mem_cons_of_mem _ hb)
  refine⟨(h.un b hb').1,?_⟩
  rw[testBit_or,(h.un b hb').2,Bool.false_or,decide_eq_false_iff_not]
  rintro rfl
  exact hnd hb
 ·have:=(List.perm_middle (a:=j) (l₁:=B1) (l₂:=B2)).nodup_iff.1 h.nd
  exact(List.nodup_cons.1 this).2

def Adds(x:Cx)(ops:Array Oper)(ε:Ev)(s:Spc):Prop:=
 ∃o,ops[s.1]? =some o∧o.dst=some s.2.1∧d_ o.dst x.n=true∧(∀c,o.op≠ .defer c)∧o.guard=none∧∀e,Cons ε e→∀F,Dx x o e F fun v F'=>∃A Lp,Lp.Perm F'∧s.2.2 v A∧Lp=A++F

theorem Cons.back{ε:Ev}{d:Nat}{v:Value}{e:Operand→Value}(h:Cons (upd ε (some d) v) e)(hd:ε d=none):Cons ε e:=fun y u hy=>h y u (by
 cases y with
 | tmp t=>
  simp only[UK,upd]at hy⊢
  cases hb:Nat.beq t d with
  | true=>rw[Nat.eq_of_beq_eq_true hb,hd]at hy;cases hy
  | false=>exact hy
 | _=>exact hy)

section rules
variable{x:Cx}{Q:Post}{ρ:Env}{ds:List Deferred}{F:ah}{ops:Array Oper}{L:ah}{fuel listed:Nat}
theorem Adds.of{i d:Nat}{P:Value→ah→Prop}{op:Op}{ty:TypeId}{pos:String}{bK:Array Edge}(ho:cO ops.toList i=some ⟨some d,op,ty,pos,bK,none⟩)(hd:Nat.blt d x.n=true)(hn:cu op=true)(H:∀F,Ef x ρ ⟨some d,op,ty,pos,bK,none⟩ F fun v F'=>∃A,P v A∧F'=A++F):Adds x ops (look ρ) (i,d,P):=
 ⟨_,aU ho,rfl,hd,gI hn,rfl,fun e he F=>(H F e fun y v hy=>he y v (by rw[DC];exact hy)).mono fun v F' ⟨Lp,p,A,hv,e⟩=>⟨A,Lp,p,hv,e⟩⟩
theorem Adds.call{i d f:Nat}{P:Value→ah→Prop}{args:List Operand}{ts:Array TypeId}{vs:List Value}{ty:TypeId}{pos:String}{bK:Array Edge}(H:∀h',Ext x.h h'→dV x.P x.main f vs.toArray h' [] P)(ho:cO ops.toList i=some ⟨some d,.call ⟨.value (.func f),args.toArray,ts⟩,ty,pos,bK,none⟩:=by rfl)[FB x.P f](hv:evs ρ args=some vs:=by rfl)(hd:Nat.blt d x.n=true:=by rfl):Adds x ops (look ρ) (i,d,P):=
 .of ho hd rfl fun F=>lQ rfl hv (fun h' hE _=>H h' hE) fun v A' hv=>⟨A',hv,rfl⟩
end rules
end Go.aS
namespace Go.aS
section
variable{α:Type}{row:α→List Value}{w:Nat}[rw':Rw row w]
section
variable{x:Cx}{ρ:Env}{F:ah}{o:Oper}{R:Value→ah→Prop}
end
end
section
variable{x:Cx}{S:ah→Prop}{ρ:Env}{o:Oper}
end
end Go.aS
namespace Go.aS
section
variable{x:Cx}{Q:Post}{ρ:Env}{ds:List Deferred}{ops:Array Oper}{G:ah}{y₁ y₂ y₃ y₄ agp agq:Nat×Obj}{id n:Nat}
end
theorem agQ{α:Type}{l l':List α}(h:∀[DecidableEq α] (a:α),l.count a=l'.count a):l.Perm l':=by
 classical
 exact List.perm_iff_count.2 fun a=>h a
end Go.aS
namespace Go.aS
theorem Os.open{α:Type}{row:α→List Value}{w:Nat}[Rw row w]{E:TypeId}{a:Option Addr}{n cap:Nat}{l:List α}{A:ah}(h:Os E row (.slice a n cap) l A)(hne:0<l.length):∃β c J,a=some ⟨β,0,none⟩∧A=(β,.cells c E (0,0))::J∧n=l.length∧c.size=cap*w∧l.length≤cap∧Part c 0 (flat row l)∧Shut J:=by
 rcases h with⟨rfl,_,_⟩ | ⟨β,c,cp,J,hv,rfl,h1,h2,h3,h4⟩
 ·simp at hne
 ·injection hv with e1 e2 e3
  subst e1 e2 e3
  exact⟨β,c,J,rfl,rfl,rfl,h1,h2,h3,h4⟩
end Go.aS

/- Slices of slices; makeSlice. Conditions: none; over any program. -/
namespace Go.aS
structure Sv where
  a:Option Addr
  n:Nat
  cap:Nat
abbrev Sv.val(s:Sv):Value:=.slice s.a s.n s.cap
def ags(s:Sv):List Value:=[.slice s.a s.n s.cap]
instance:Rw ags 1:=⟨fun _=>rfl,fun _=>rfl⟩

section
variable{α:Type}{row:α→List Value}{w:Nat}[rw':Rw row w]{E:TypeId}
inductive UG(E:TypeId)(row:α→List Value)[Rw row w]:List Sv→List (List α)→ah→Prop
  | nil:UG E row [] [] []
  | cons {s:Sv} {l:List α} {A B:ah} {vs:List Sv} {ls:List (List α)}:Os E row s.val l A→UG E row vs ls B→UG E row (s::vs) (l::ls) (A++B)
theorem UG.len{vs:List Sv}{ls:List (List α)}{A:ah}(h:UG E row vs ls A):vs.length=ls.length:=by
  induction h with
  | nil=>rfl
  | cons _ _ ih=>simp[ih]
theorem UG.shut{vs:List Sv}{ls:List (List α)}{A:ah}(h:UG E row vs ls A):Shut A:=by
  induction h with
  | nil=>exact .nil
  | cons h _ ih=>exact h.shut.app ih
theorem UG.snoc{vs:List Sv}{ls:List (List α)}{A B:ah}{s:Sv}{l:List α}(h:UG E row vs ls A)(hs:Os E row s.val l B):UG E row (vs++[s]) (ls++[l]) (A++B):=by
  induction h with
  | nil=>have:=UG.cons hs .nil;simpa using this
  | cons h1 _ ih=>have:=UG.cons h1 ih;rw[←List.append_assoc]at this;exact this
theorem UG.sl{vs:List Sv}{ls:List (List α)}{A:ah}{h':Hp}(h:UG E row vs ls A)(hL:∀b o,(b,o)∈A→h' b=some o):∀{k:Nat} {s:Sv} {l:List α},vs[k]? =some s→ls[k]? =some l→Sl h' row s.val l:=by
  induction h with
  | nil=>intro k s l hs;simp at hs
  | cons h1 _ ih=>
    intro k s l hs hl
    rcases k with _ | k
    · simp at hs hl;subst hs hl
      exact h1.sl fun b o hb=>hL b o (List.mem_append_left _ hb)
    · simp at hs hl
      exact ih (fun b o hb=>hL b o (List.mem_append_right _ hb)) hs hl
theorem agG{x:Cx}{c:Code}{Q:Post}{ρ:Env}{ds:List Deferred}{A F:ah}{vs:List Sv}{ls:List (List α)}(hs:UG E row vs ls A)
    (H:∀h',Ext x.h h'→(∀(k:Nat) (s:Sv) (l:List α),vs[k]? =some s→ls[k]? =some l→Sl h' row s.val l∧Zs h' s.val)→W {x with h:=h'} c Q ρ ds F):W x c Q ρ ds (A++F):=by
  induction hs generalizing x with
  | nil=>exact H x.h ⟨fun _ _ q=>q,fun _ q=>q⟩ fun k s l hk=>by simp at hk
  | cons h1 h2 ih=>
    rw[List.append_assoc]
    refine JU h1 fun h' hE hsl hz=>ih (x:={x with h:=h'}) fun h'' hE' hall=>H h'' (hE.trans hE') fun k s l hk hl=>?_
    rcases k with _ | k
    · simp at hk hl;subst hk hl
      exact⟨hsl.ext hE',hz.ext hE'⟩
    · simp at hk hl
      exact hall k s l hk hl
theorem Sv.eta{v:Value}{l:List α}{A:ah}(h:Os E row v l A):∃s:Sv,v=s.val:=by
  obtain⟨a,cap,rfl⟩:=h.dA
  exact⟨⟨a,_,cap⟩,rfl⟩
end
/-! makeSlice -/
section
variable{x:Cx}{ρ:Env}{F:ah}{o:Oper}{R:Value→ah→Prop}
theorem G8{t E by' n:Nat}{z:Value}{y y':Operand}(ho:o.op= .makeSlice t y y')[TD x.P t (.slice E)][TI x.P E 1 by' z #[z]](hy:ev ρ y=some (.int .i64 (n:Int)))(hy':ev ρ y'=some (.int .i64 (n:Int)))(hb:by'*n≤2 ^ 48∧n≤1000000)
    (K:∀β,R (.slice (some ⟨β,0,none⟩) n n) ((β,.cells (List.replicate n z).toArray E (0,0))::F)):Ef x ρ o F R:=
  Ef.xW fun e he h' hE=>by
    obtain⟨j,hj,hj1,hj2,hj3,hj4⟩:=TI.out (inferInstance:TI x.P E 1 by' z #[z])
    have hw:IntKind.i64.wrap (n:Int)=n:=nC (by omega) (by omega)
    have c1:¬((n:Int)<0):=by omega
    have c2:¬((by':Int)*(n:Int)>2 ^ 48):=by
                                                         have:((by'*n:Nat):Int)≤2 ^ 48:=by exact_mod_cast hb.1
                                                         rw[Int.natCast_mul]at this;omega
    have c3:¬((n:Int)>n):=by omega
    simp only[execOp,ho,he y _ hy,he y' _ hy',Instr.makeSlice,asInt,asIntOf,bind_eq,au,bind_assoc,bind_pure,aC,dJ hj,hj2,hw]
    simp only[c1,c2,c3,decide_false,Bool.or_false,Bool.false_eq_true,if_false]
    have room:∀{β:Type} {f:Unit→Sem β} {Q':β→ah→Prop},tr x.P h' (f ()) F Q'→tr x.P h' ((askRoom (((n:Int).toNat)*by')).bind f) F Q':=by
      intro β f Q' H
      unfold askRoom
      split
      · exact⟨rfl,H⟩
      · exact H
    refine bJ (room ?_)
    simp only[dH,Int.toNat_natCast,Nat.mul_one]
    have harr:(Array.range n).map (fun i=>(#[z]:Array Value)[i % (#[z]:Array Value).size]!)=(List.replicate n z).toArray:=by
      apply Array.ext
      · simp
      · intro i h1 h2
        simp[Nat.mod_one]
    by_cases h0:n=0
    · subst h0
      have e0:(Array.range 0).map (fun x=>(#[]:Array Value)[x % (#[]:Array Value).size]!)=(List.replicate 0 z).toArray:=by simp
      simp only[if_true,newRow,bind_eq,au,bind_assoc,bind_pure,e0]
      exact wI fun r h1 h2=>⟨_,.inl rfl,K r⟩
    · simp only[if_neg h0,fG,hj4,newRow,bind_eq,au,bind_assoc,bind_pure,harr]
      exact wI fun r h1 h2=>⟨_,.inl rfl,K r⟩
end
end Go.aS

/- Several cases of pans. Conditions: none; over the given program. -/
namespace Go.aS
set_option maxRecDepth 100000
set_option maxHeartbeats 4000000
theorem apA(main:Side)(h:Hp)(nums:List Int)(lv:Value)(b k:Nat)(s:Int)(ps:List Pn)(vp:Value)(p:Pn)(hl:Sl h fH lv nums)(hk:k≤5000)(hf:Sl h Pn.row vp ps):dV prog main aoM #[vp,p.val,bI b] h [(b,wF lv k s)]
  (fun v A=>∃(s0:Sv) (vs:List Sv) (ls:List (List Pn)) (S T:ah) (k':Nat) (s':Int),vp=s0.val∧Os aoG ags v (s0::vs) T∧UG Ag Pn.row vs ls S∧(vs.length=3∧∀l∈ls,l.length≤5)∧k'≤k+400∧Sb ((b,wF lv k' s')::T++S) A):=by
 obtain⟨a,cap,rfl⟩:=hf.dA
 refine dV.aG ao9 rfl (by show 3≤22;decide) [(0,.slice a ps.length cap),(1,p.val),(2,bI b)] ⟨rfl,rfl,rfl,trivial⟩ ?_
 refine W.seq<|W.region rfl ?_
 refine Ops.box (cs:= #[I p.lo,I p.hi,I p.sh]) (fun wC=>?_)
 refine agb rfl rfl rfl<|pq<|W.seq<|W.region rfl<|qm rfl rfl rfl ?_
 refine cg (A:=[(b,_)]) (.tail .all) (fun h' hE hL=>VT _ h' nums lv b k s 4 (hl.ext hE) (by omega) (by decide)) (fun v A' hv=>?_)
 obtain⟨l1,S1,k1,s1,hO1,⟨hl1,hck1⟩,hk1,Ym⟩:=hv
 refine Ops.sb (F':=(wC,.cells #[I p.lo,I p.hi,I p.sh] Ag (0,0))::((b,wF lv k1 s1)::S1)) (.cons Ym) ?_
 obtain⟨a1,cap1,rfl⟩:=hO1.dA
 refine qm rfl rfl rfl ?_
 refine cg (A:=[(b,_)]) (.tail .head) (fun h' hE hL=>OA _ h' nums lv b k1 s1 3 (hl.ext hE) (by omega) (by decide)) (fun v A' hv=>?_)
 obtain⟨l2,S2,k2,s2,hO2,⟨hl2,ar9⟩,hk2,Oh⟩:=hv
 refine Ops.sb (F':=(wC,.cells #[I p.lo,I p.hi,I p.sh] Ag (0,0))::((b,wF lv k2 s2)::(S2++S1))) (.cons (Oh.app .refl)) ?_
 obtain⟨a2,cap2,rfl⟩:=hO2.dA
 refine agb rfl rfl rfl<|agb rfl rfl rfl<|pq<|W.seq ?_
 refine W.mono (Q:=(fun e ρ' ds' F'=>e= .normal∧ds'=[]∧∃β w3 S3,Os Ag Pn.row (Sv.val w3) (l2++[p]) S3∧Sub [(6,.slice (some ⟨β,0,none⟩) 4 4)] ρ'∧
   Sb ((β,.cells #[.slice a ps.length cap,.slice a1 l1.length cap1,.slice a2 l2.length cap2,w3.val] aoG (0,0))::(S3++((b,wF lv k2 s2)::(S2++S1)))) F')) ?_ ?_
 ·refine W.DR [(wC,.cells #[I p.lo,I p.hi,I p.sh] Ag (0,0))] (n:=10) rfl ?_
  refine xq 0 (aN rfl rfl) rfl ?_
  refine xq 1 (aN rfl rfl) rfl ?_
  refine xq 2 (aN rfl rfl) rfl ?_
  refine xq 3 (aN rfl rfl) rfl ?_
  first | refine xq 5 (Bf rfl rfl) rfl ?_ | refine xq 5 (zi rfl rfl) rfl ?_
  have hdup:∀{h':Hp},Sl h' Pn.row (.slice a2 l2.length cap2) l2→dV prog main ag_ #[.slice a2 l2.length cap2] h' [] (fun v A=>∃S,Os Ag Pn.row v l2 S∧Sb S A):=fun hs=>aij _ _ l2 _ hs (by omega)
  refine Any.WB (i:=4) (j:=6) (by kernel_rfl) (aU rfl) (aU rfl) an an rfl rfl rfl rfl ?_ ?_
  ·refine QZ (args:=[_]) (A:=[]) rfl rfl (Seg.head (A:=[])) (fun h' hE hL=>hdup (hO2.sl fun b' o hb=>hL b' o (List.mem_cons_of_mem _ (List.mem_cons_of_mem _ (List.mem_append_left _ hb))))) (fun v A' hv=>?_)
   obtain⟨S3,hO3,afy⟩:=hv
   refine⟨.inr (.one (List.mem_append_right _ (.head _)) .nil),Any.sb (afy.app .refl) ?_⟩
   refine abl (i:=6) (cs:= #[I p.lo,I p.hi,I p.sh]) (fun akT=>?_) rfl (hk:=(.one (List.mem_append_right _ (.head _)) .nil)) (hf:=by kernel_rfl)
   refine ae (i:=7) rfl an rfl rfl (iW (row:=Pn.row) (l':=[p]) rfl rfl rfl hO3 (.tail .head) (fun h2 _ hl=>Sl.mk (hl akT _ (.head _)) rfl (Part.all (flat Pn.row [p]))) (by simp;omega) (by decide) rfl (fun v' S' Ie=>?_))
   refine⟨.inr (.one (.tail _ (List.mem_append_right _ (.head _))) .nil),?_⟩
   obtain⟨w3,rfl⟩:=Sv.eta Ie
   refine abl (i:=8) (cs:= #[.slice a ps.length cap,.slice a1 l1.length cap1,.slice a2 l2.length cap2,w3.val]) (fun aqf=>?_) rfl (hk:=(.one (.tail _ (List.mem_append_right _ (.head _))) .nil)) (hf:=by kernel_rfl)
   refine xq 9 (jS rfl rfl) rfl ?_ (hS:=(.one (.tail _ (.tail _ (List.mem_append_right _ (.head _)))) .nil))
   refine az ?_
   exact⟨rfl,rfl,aqf,w3,S',Ie,⟨rfl,trivial⟩,.cons (.skip rfl (.app .refl (.skip rfl .refl)))⟩
  ·refine DN (parts:=[⟨_,_⟩]) (cs:= #[I p.lo,I p.hi,I p.sh]) rfl rfl (by decide) (by decide) (by kernel_rfl) fun akT _ _=>⟨.inr (.one (.tail _ (.head _)) .nil),?_⟩
   refine ae (i:=4) rfl an rfl rfl (QZ (args:=[_]) (A:=[]) rfl rfl (Seg.head (A:=[])) (fun h' hE hL=>hdup (hO2.sl fun b' o hb=>hL b' o (List.mem_cons_of_mem _ (List.mem_cons_of_mem _ (List.mem_cons_of_mem _ (List.mem_append_left _ hb)))))) (fun v A' hv=>?_))
   obtain⟨S3,hO3,afy⟩:=hv
   refine⟨.inr (.one (List.mem_append_right _ (.tail _ (.head _))) .nil),Any.sb (afy.app .refl) ?_⟩
   refine ae (i:=7) rfl an rfl rfl (iW (row:=Pn.row) (l':=[p]) rfl rfl rfl hO3 .head (fun h2 _ hl=>Sl.mk (hl akT _ (.head _)) rfl (Part.all (flat Pn.row [p]))) (by simp;omega) (by decide) rfl (fun v' S' Ie=>?_))
   refine⟨.inr (.one (List.mem_append_right _ (.tail _ (.head _))) .nil),?_⟩
   obtain⟨w3,rfl⟩:=Sv.eta Ie
   refine abl (i:=8) (cs:= #[.slice a ps.length cap,.slice a1 l1.length cap1,.slice a2 l2.length cap2,w3.val]) (fun aqf=>?_) rfl (hk:=(.one (List.mem_append_right _ (.tail _ (.head _))) .nil)) (hf:=by kernel_rfl)
   refine xq 9 (jS rfl rfl) rfl ?_ (hS:=(.one (.tail _ (List.mem_append_right _ (.tail _ (.head _)))) .nil))
   refine az ?_
   exact⟨rfl,rfl,aqf,w3,S',Ie,⟨rfl,trivial⟩,.cons (.app .refl (.skip rfl (.skip rfl .refl)))⟩
 rintro e ρ' ds' F' ⟨rfl,rfl,β,w3,S3,hO3,hE3,afy⟩
 refine aA (W.env hE3 (W.sb afy ?_))
 refine W.ret ?_
 refine mg (vs:=[_]) ⟨⟨a,ps.length,cap⟩,[⟨a1,l1.length,cap1⟩,⟨a2,l2.length,cap2⟩,w3],[l1,l2,l2++[p]],S1++(S2++(S3++[])),[(β,.cells #[.slice a ps.length cap,.slice a1 l1.length cap1,.slice a2 l2.length cap2,w3.val] aoG (0,0))],k2,s2,rfl,?_,.cons hO1 (.cons hO2 (.cons hO3 .nil)),⟨rfl,?_⟩,by omega,?_⟩
 ·exact .inr ⟨β,_,4,[],rfl,rfl,rfl,Nat.le_refl _,Part.all (flat ags [⟨a,ps.length,cap⟩,⟨a1,l1.length,cap1⟩,⟨a2,l2.length,cap2⟩,w3]),.nil⟩
 ·intro l hl
  simp only[List.mem_cons,List.not_mem_nil,or_false]at hl
  rcases hl with rfl | rfl | rfl
  ·omega
  ·omega
  ·simp;omega
 ·refine .dF (agQ fun y=>?_)
  simp only[List.count_append,List.count_cons,List.count_nil];omega
end Go.aS

/- What is reached in so many steps, as the laws find it. Conditions: none; no program in sight. -/
namespace Go.aS
set_option linter.unusedVariables false
end Go.aS

/- Sets of qualities, as the laws keep them. Conditions: none; over the given program. -/
namespace Go.aS
set_option maxRecDepth 100000
set_option maxHeartbeats 4000000
abbrev V9(β:Nat):Value:=.slice (some ⟨β,0,none⟩) 13 13
abbrev bsO(f:Nat→Bool):Obj:=.cells (bA f) RS (0,0)
theorem QI:(List.replicate 13 (Value.bool false)).toArray=bA fun _=>false:=rfl
end Go.aS

/- Layers: from where the goal is reached in n pans, one pan left out. Conditions: none. -/
namespace Go.aS
def apy(ps:List Pn)(w:Int)(S:Nat→Bool):Nat→Nat→Bool
 | 0,q=>S q
 | n+1,q=>(List.range ps.length).any fun i=>decide ((i:Int)≠w)&&P9 ps q i&&apy ps w S n (gy ps i q)
def aqC(ps:List Pn)(w:Int)(S:Nat→Bool)(n q i:Nat):Bool:=(List.range i).any fun i=>decide ((i:Int)≠w)&&P9 ps q i&&apy ps w S n (gy ps i q)
def apZ(ps:List Pn)(w:Int)(S:Nat→Bool)(n q i k:Nat):Bool:=if k<q then apy ps w S (n+1) k else if k=q then aqC ps w S n q i else false
theorem apN{ps:List Pn}{w:Int}{S:Nat→Bool}{n q i:Nat}:aqC ps w S n q (i+1)=(aqC ps w S n q i|| (decide ((i:Int)≠w)&&P9 ps q i&&apy ps w S n (gy ps i q))):=by
 simp[aqC,List.range_succ,List.any_append]
theorem aq9{ps:List Pn}{w:Int}{S:Nat→Bool}{n q:Nat}:aqC ps w S n q ps.length=apy ps w S (n+1) q:=rfl
theorem ap4{ps:List Pn}{w:Int}{S:Nat→Bool}{n q i:Nat}:apZ ps w S n q i q=aqC ps w S n q i:=by simp[apZ]
theorem ap1{ps:List Pn}{w:Int}{S:Nat→Bool}{n q i:Nat}{b:Bool}(hb:b=aqC ps w S n q (i+1))(k:Nat):(if k=q then b else apZ ps w S n q i k)=apZ ps w S n q (i+1) k:=by
 unfold apZ
 by_cases h1:k=q
 ·subst h1;simp[hb]
 ·simp[h1]
theorem aqw{ps:List Pn}{w:Int}{S:Nat→Bool}{n q:Nat}(k:Nat):apZ ps w S n q ps.length k=apZ ps w S n (q+1) 0 k:=by
 unfold apZ
 by_cases h1:k<q
 ·simp[h1,Nat.lt_succ_of_lt h1]
 ·by_cases h2:k=q
  ·subst h2;simp[aq9]
  ·rw[if_neg h1,if_neg h2,if_neg (by omega)]
   by_cases h3:k=q+1
   ·subst h3;simp[aqC]
   ·rw[if_neg h3]
theorem aqx{ps:List Pn}{w:Int}{S:Nat→Bool}{n:Nat}(k:Nat):apZ ps w S n 0 0 k=false:=by
 unfold apZ
 by_cases h2:k=0
 ·subst h2;simp[aqC]
 ·simp[h2]
theorem aqy{ps:List Pn}{w:Int}{S:Nat→Bool}{n k:Nat}(hk:k<13):apZ ps w S n 13 0 k=apy ps w S (n+1) k:=by simp[apZ,hk]
theorem ap2{ps:List Pn}(h4:ps.length≤4){S:Nat→Bool}:∀{n q:Nat},apy ps (-1) S n q=P7 (dO ps 0) S n q
 | 0,q=>rfl
 | n+1,q=>by
  have e:P7 (dO ps 0) S (n+1) q=(dO ps 0 q).any fun po=>P7 (dO ps 0) S n po.2:=rfl
  rw[e,apy,dO,List.any_map,Bool.eq_iff_iff,List.any_eq_true,List.any_eq_true]
  constructor
  ·rintro⟨i,hi,hx⟩
   simp only[Bool.and_eq_true]at hx
   refine⟨i,?_,?_⟩
   ·simp only[bQ,List.mem_filter,List.mem_range]at hi⊢
    exact⟨by omega,by simp[hx.1.2]⟩
   ·have:=hx.2;rw[ap2 h4]at this;exact this
  ·rintro⟨i,hi,hx⟩
   simp only[bQ,List.mem_filter,List.mem_range,Bool.and_eq_true]at hi
   have hil:i<ps.length:=by
    rcases Nat.lt_or_ge i ps.length with h | h
    ·exact h
    ·have:=hi.2.1;unfold P9 at this;rw[List.getElem?_eq_none h]at this;cases this
   refine⟨i,List.mem_range.2 hil,?_⟩
   simp only[Bool.and_eq_true]
   refine⟨⟨decide_eq_true (by omega),hi.2.1⟩,?_⟩
   rw[ap2 h4];exact hx
end Go.aS

/- Where pans lead for ever, as the document has it. Conditions: none; over the given program. -/
namespace Go.aS
set_option maxRecDepth 100000
set_option maxHeartbeats 4000000
def apM(ps:List Pn)(k:Int)(q:Nat):Bool:=if 0≤k then decide ((q:Int)=k)else dY ps q
theorem aq_(main:Side)(h:Hp)(ps:List Pn)(vp:Value)(k:Int)(q:Nat)(hf:Sl h Pn.row vp ps)(hn:ps.length≤1000):Pu prog main aqa #[vp,.agg #[I k],I q] h (.bool (apM ps k q)):=by
 obtain⟨a,cap,rfl⟩:=hf.dA
 refine dV.aG aqA rfl (by show 3≤17;decide) [(0,.slice a ps.length cap),(1,.agg #[I k]),(2,I q)] ⟨rfl,rfl,rfl,trivial⟩ ?_
 refine W.seq<|W.region rfl ?_
 refine Ops.box (cs:= #[I k]) (fun wC=>?_)
 refine agb rfl rfl rfl<|pq<|W.seq<|W.seq<|W.region rfl ?_
 refine agY rfl ?_
 refine agX rfl ?_
 refine agW (IJ rfl rfl rfl) rfl ?_
 refine pq ?_
 refine W.bC rfl (fun c9=>?_) (fun c9=>?_)
 ·have hk:0≤k:=by omega
  refine W.seq<|W.region rfl<|qm rfl rfl rfl ?_
  refine agY rfl ?_
  refine agX rfl ?_
  refine agW (nD rfl rfl rfl) rfl ?_
  refine agb rfl rfl rfl<|pq<|W.ret<|aY ?_
  refine uZ ?_
  rw[apM,if_pos hk] <;>rfl
 ·have hk:¬0≤k:=by omega
  refine W.skip<|aA<|W.seq<|W.region rfl<|qm rfl rfl rfl<|qm rfl rfl rfl ?_
  refine cp (fun h' hE hL=>ah6 _ h' ps _ q (hf.ext hE) hn) ?_
  refine agb rfl rfl rfl<|pq<|W.ret ?_
  refine uZ ?_
  rw[apM,if_neg hk] <;>rfl
theorem aqY(main:Side)(h:Hp)(ps:List Pn)(vp:Value)(hf:Sl h Pn.row vp ps)(hok:iP ps):dV prog main ap6 #[vp] h [] (fun v A=>∃β,v=V9 β∧Sb [(β,bsO (apy ps (-1) (fun _=>true) 13))] A):=by
 obtain⟨a,cap,rfl⟩:=hf.dA
 have h4:=hok.len
 refine dV.aG aqm rfl (by show 1≤60;decide) [(0,.slice a ps.length cap)] ⟨rfl,trivial⟩ ?_
 refine W.seq<|W.region rfl<|agb rfl rfl rfl<|pq<|W.seq<|W.region rfl ?_
 refine oe rfl wn rfl rfl (G8 (n:=13) rfl rfl rfl (by decide) (fun uU=>?_))
 rw[QI]
 refine agb rfl rfl rfl<|pq<|W.seq<|W.seq<|W.region rfl<|agb rfl rfl rfl<|pq<|W.block ?_
 refine W.loop (σ:=Nat) (fun q=>q≤13) (fun q=>[(4,I q),(3,V9 uU),(0,.slice a ps.length cap)]) (fun q=>[(uU,bsO fun k=>decide (k<q))]) (fun q=>13-q) 0 (Nat.zero_le _) ⟨rfl,rfl,rfl,trivial⟩ (.eq (eqc (qg fun i _=>by simp))) ?_
 rintro q hq
 refine W.seq<|W.seq<|W.region rfl<|qm rfl rfl rfl ?_
 refine agW (Lr rfl rfl rfl) rfl ?_
 refine pq ?_
 refine W.bC rfl (fun c11=>?_) (fun c11=>?_)
 ·have Dn:q<13:=by omega
  have hsz:0+q*1<(bA fun k=>decide (k<q)).size:=by rw[nX];omega
  refine W.skip<|aA<|W.seq<|W.block<|W.region rfl<|qm rfl rfl rfl<|qm rfl rfl rfl ?_
  refine ag3 rfl ?_
  refine Ops.yG ?_
  refine Ops.nil<|dI<|aA<|W.region rfl<|qm rfl rfl rfl ?_
  refine ag1 rfl ?_
  refine agb rfl rfl rfl<|pq ?_
  refine⟨rfl,q+1,Dn,by omega,⟨rfl,rfl,rfl,trivial⟩,.eq ?_⟩
  rw[show 0+q*1=q by omega,Og Dn]
  refine eqc (qg fun i _=>?_)
  by_cases h1:i=q
  ·subst h1;simp
  ·rw[if_neg h1];exact decide_eq_decide.2 (by omega)
 ·obtain rfl:q=13:=by omega
  refine W.exit<|bP<|bP<|gG<|aA<|W.seq<|W.seq<|W.region rfl<|agb rfl rfl rfl<|Ops.nil ?_
  refine aA<|W.block ?_
  refine W.aa1 (fun(n:Nat) (βn:Nat)=>n≤13) (fun n βn=>[(5,I n),(3,V9 βn),(0,.slice a ps.length cap)]) (fun n βn=>[(βn,bsO (apy ps (-1) (fun _=>true) n))]) (fun n _=>13-n) 0 uU (Nat.zero_le _) ⟨rfl,rfl,rfl,trivial⟩ (.eq (eqc (qg fun i hi=>by simp[apy,hi]))) ?_
  rintro n βn hn
  refine W.seq<|W.seq<|W.region rfl<|qm rfl rfl rfl ?_
  refine agW (Lr rfl rfl rfl) rfl ?_
  refine pq ?_
  refine W.bC rfl (fun c18=>?_) (fun c18=>?_)
  ·have apP:n<13:=by omega
   refine W.skip<|aA<|W.seq<|W.block<|W.seq<|W.region rfl ?_
   refine oe rfl wn rfl rfl (G8 (n:=13) rfl rfl rfl (by decide) (fun yC=>?_))
   rw[QI]
   refine agb rfl rfl rfl<|pq<|W.seq<|W.seq<|W.region rfl<|agb rfl rfl rfl<|pq<|W.block ?_
   refine W.loop (σ:=Nat) (fun q=>q≤13) (fun q=>[(7,I q),(6,V9 yC),(5,I n),(3,V9 βn),(0,.slice a ps.length cap)]) (fun q=>[(yC,bsO (apZ ps (-1) (fun _=>true) n q 0)),(βn,bsO (apy ps (-1) (fun _=>true) n))]) (fun q=>13-q) 0 (Nat.zero_le _) ⟨rfl,rfl,rfl,rfl,rfl,trivial⟩ (.eq (eqc (qg fun i _=>aqx i))) ?_
   rintro q hq
   refine W.seq<|W.seq<|W.region rfl<|qm rfl rfl rfl ?_
   refine agW (Lr rfl rfl rfl) rfl ?_
   refine pq ?_
   refine W.bC rfl (fun c23=>?_) (fun c23=>?_)
   ·have Dn:q<13:=by omega
    refine W.skip<|aA<|W.seq<|W.block<|W.seq<|W.region rfl<|agb rfl rfl rfl<|pq<|W.block ?_
    refine W.loop (σ:=Nat) (fun i=>i≤ps.length) (fun i=>[(8,I i),(7,I q),(6,V9 yC),(5,I n),(3,V9 βn),(0,.slice a ps.length cap)]) (fun i=>[(yC,bsO (apZ ps (-1) (fun _=>true) n q i)),(βn,bsO (apy ps (-1) (fun _=>true) n))]) (fun i=>ps.length-i) 0 (Nat.zero_le _) ⟨rfl,rfl,rfl,rfl,rfl,rfl,trivial⟩ .refl ?_
    rintro i hi
    refine W.seq<|W.seq<|W.region rfl<|qm rfl rfl rfl<|qm rfl rfl rfl ?_
    refine agW (dM rfl rfl) rfl ?_
    refine agW (fO rfl rfl rfl) rfl ?_
    refine pq ?_
    refine W.bC rfl (fun c29=>?_) (fun c29=>?_)
    ·have hil:i<ps.length:=by omega
     obtain⟨p,hp,-⟩:=has hil
     have hpi:=hok.pan p (List.mem_of_getElem? hp)
     obtain⟨b,off,c,E2,fz,hv,hbb,hx,hy,hz⟩:=hf.at hp
     cases hv
     have hx':c.extract (off+i*3) (off+i*3+3)= #[I p.lo,I p.hi,I p.sh]:=hx
     clear hx hz
     have hta:P9 ps q i=p.takes q:=by unfold P9;rw[hp]
     have hou:=Vl (q:=q) hp
     have SH:gy ps i q<13:=AZ
     have hg1:(bA (apZ ps (-1) (fun _=>true) n q i))[0+q*1]? =some (.bool (apZ ps (-1) (fun _=>true) n q i q)):=by rw[show 0+q*1=q by omega];exact L9 Dn
     have hg2:(bA (apy ps (-1) (fun _=>true) n))[0+gy ps i q*1]? =some (.bool (apy ps (-1) (fun _=>true) n (gy ps i q))):=by rw[show 0+gy ps i q*1=gy ps i q by omega];exact L9 SH
     have hsz:0+q*1<(bA (apZ ps (-1) (fun _=>true) n q i)).size:=by rw[nX];omega
     have hw1:((i:Int)≠-1):=by omega
     refine W.skip<|aA<|W.seq<|W.block<|W.region rfl<|qm rfl rfl rfl<|qm rfl rfl rfl<|qm rfl rfl rfl<|qm rfl rfl rfl ?_
     refine ag3 rfl ?_
     refine agX rfl ?_
     refine qm rfl rfl rfl ?_
     refine Ops.RV (fun asj=>?_) (fun asj=>?_)
     ·refine Ops.no ?_
      refine Ops.no ?_
      refine Ops.no ?_
      refine Ops.no ?_
      refine Ops.no ?_
      refine Ops.no ?_
      refine Ops.no ?_
      refine Ops.noU ?_
      refine Ops.noU ?_
      refine Ops.noU ?_
      refine Ops.noU ?_
      refine Ops.noU ?_
      refine Ops.noU ?_
      refine Ops.noU ?_
      refine Ops.noU ?_
      refine Ops.noU ?_
      refine Ops.no ?_
      refine agW (dG rfl rfl rfl) rfl ?_
      refine ag3 rfl ?_
      refine Ops.yG ?_
      refine Ops.nil<|dI<|aA<|W.region rfl<|qm rfl rfl rfl ?_
      refine ag1 rfl ?_
      refine agb rfl rfl rfl<|pq ?_
      refine⟨rfl,i+1,hil,by omega,⟨rfl,rfl,rfl,rfl,rfl,rfl,trivial⟩,.eq ?_⟩
      rw[show 0+q*1=q by omega,Og Dn]
      refine eqc (qg fun k _=>(ap1 ?_ k).symm)
      rw[apN,hta,←ap4]
      simp[*]
     ·refine oq (aN rfl rfl) rfl (ak rfl rfl rfl) rfl rfl ?_
      refine oq (aN rfl rfl) rfl (ak rfl rfl rfl) rfl rfl ?_
      first | refine oq (G_ rfl rfl rfl) rfl (ak rfl rfl rfl) rfl rfl ?_ | refine oq (o_ rfl rfl rfl) rfl (ak rfl rfl rfl) rfl rfl ?_
      first | refine oq (Bf rfl rfl) rfl (ak rfl rfl rfl) rfl rfl ?_ | refine oq (zi rfl rfl) rfl (ak rfl rfl rfl) rfl rfl ?_
      refine oq (aN rfl rfl) rfl (ak rfl rfl rfl) rfl rfl ?_
      refine cp (g:=some _) (fun h' hE hL=>aik _ h' p q) ?_
      refine oq (aN rfl rfl) rfl (ak rfl rfl rfl) rfl rfl ?_
      refine Ops.RV (fun arN=>?_) (fun arN=>?_)
      ·refine oq (aN rfl rfl) rfl (ak rfl rfl rfl) rfl rfl ?_
       refine oq (aN rfl rfl) rfl (ak rfl rfl rfl) rfl rfl ?_
       refine oq (aN rfl rfl) rfl (ak rfl rfl rfl) rfl rfl ?_
       first | refine oq (G_ rfl rfl rfl) rfl (ak rfl rfl rfl) rfl rfl ?_ | refine oq (o_ rfl rfl rfl) rfl (ak rfl rfl rfl) rfl rfl ?_
       first | refine oq (Bf rfl rfl) rfl (ak rfl rfl rfl) rfl rfl ?_ | refine oq (zi rfl rfl) rfl (ak rfl rfl rfl) rfl rfl ?_
       refine oq (aN rfl rfl) rfl (ak rfl rfl rfl) rfl rfl ?_
       refine cp (g:=some _) (fun h' hE hL=>ab_ _ h' p q ⟨by omega,by omega⟩ ⟨by omega,by omega⟩) ?_
       rw[←hou]
       first | refine oq (G_ rfl rfl rfl) rfl (ak rfl rfl rfl) rfl rfl ?_ | refine oq (o_ rfl rfl rfl) rfl (ak rfl rfl rfl) rfl rfl ?_
       refine oq (iQ rfl rfl) rfl (ak rfl rfl rfl) rfl rfl ?_
       refine oq (dG rfl rfl rfl) rfl (ak rfl rfl rfl) rfl rfl ?_
       refine agW (iH rfl rfl rfl) rfl ?_
       refine ag3 rfl ?_
       refine Ops.yG ?_
       refine Ops.nil<|dI<|aA<|W.region rfl<|qm rfl rfl rfl ?_
       refine ag1 rfl ?_
       refine agb rfl rfl rfl<|pq ?_
       refine⟨rfl,i+1,hil,by omega,⟨rfl,rfl,rfl,rfl,rfl,rfl,trivial⟩,.eq ?_⟩
       rw[show 0+q*1=q by omega,Og Dn]
       refine eqc (qg fun k _=>(ap1 ?_ k).symm)
       rw[apN,hta,←ap4]
       simp[*]
      ·refine Ops.no ?_
       refine Ops.no ?_
       refine Ops.no ?_
       refine Ops.no ?_
       refine Ops.no ?_
       refine Ops.no ?_
       refine Ops.no ?_
       refine Ops.no ?_
       refine Ops.no ?_
       refine oq (iH rfl rfl rfl) rfl (ak rfl rfl rfl) rfl rfl ?_
       refine agW (iH rfl rfl rfl) rfl ?_
       refine ag3 rfl ?_
       refine Ops.yG ?_
       refine Ops.nil<|dI<|aA<|W.region rfl<|qm rfl rfl rfl ?_
       refine ag1 rfl ?_
       refine agb rfl rfl rfl<|pq ?_
       refine⟨rfl,i+1,hil,by omega,⟨rfl,rfl,rfl,rfl,rfl,rfl,trivial⟩,.eq ?_⟩
       rw[show 0+q*1=q by omega,Og Dn]
       refine eqc (qg fun k _=>(ap1 ?_ k).symm)
       rw[apN,hta,←ap4]
       simp[*]
    ·obtain rfl:i=ps.length:=by omega
     refine W.exit<|bP<|bP<|gG<|dI<|aA<|W.region rfl<|qm rfl rfl rfl ?_
     refine ag1 rfl ?_
     refine agb rfl rfl rfl<|pq ?_
     exact⟨rfl,q+1,Dn,by omega,⟨rfl,rfl,rfl,rfl,rfl,trivial⟩,.eq (eqc (qg fun k _=>(aqw k).symm))⟩
   ·obtain rfl:q=13:=by omega
    refine W.exit<|bP<|bP<|gG<|aA<|W.region rfl<|qm rfl rfl rfl<|agb rfl rfl rfl<|Ops.nil<|dI ?_
    refine aA<|W.region rfl<|qm rfl rfl rfl ?_
    refine ag1 rfl ?_
    refine agb rfl rfl rfl<|pq ?_
    exact⟨rfl,n+1,yC,by omega,by omega,⟨rfl,rfl,rfl,trivial⟩,.trans (.eq (eqc (qg fun k hk=>(aqy hk).symm))) (.right (.refl (A:=[_])) (.cons rfl .nil))⟩
  ·obtain rfl:n=13:=by omega
   refine W.exit<|bP<|bP<|gG<|aA<|W.seq<|W.region rfl<|qm rfl rfl rfl<|agb rfl rfl rfl<|Ops.nil ?_
   refine aA<|W.ret ?_
   exact mg (vs:=[_]) ⟨βn,rfl,.refl⟩
end Go.aS

/- Layers, as the document has them. Conditions: none; over the given program. -/
namespace Go.aS
set_option maxRecDepth 100000
set_option maxHeartbeats 4000000
abbrev svB(β:Nat):Sv:=⟨some ⟨β,0,none⟩,13,13⟩
def aqI(ps:List Pn)(w:Int)(S:Nat→Bool)(vs:List Sv)(n:Nat)(A:ah):Prop:=Shut A∧∀k,k<n→∃β,vs[k]? =some (svB β)∧(β,bsO (apy ps w S k))∈A
theorem aqI.next{ps:List Pn}{w:Int}{S:Nat→Bool}{vs:List Sv}{n β:Nat}{A:ah}{s:Sv}(h:aqI ps w S vs n A)(hs:vs[n]? =some (svB β)):aqI ps w S (vs++[s]) (n+1) ((β,bsO (apy ps w S n))::A):=by
 refine⟨.cons rfl h.1,fun k hk=>?_⟩
 have app:∀{k:Nat} {x:Sv},vs[k]? =some x→(vs++[s])[k]? =some x:=fun{k x} hx=>by
  rw[List.getElem?_append_left (List.getElem?_eq_some_iff.1 hx).1];exact hx
 rcases Nat.lt_or_ge k n with h1 | h1
 ·obtain⟨β',hb,hm⟩:=h.2 k h1
  exact⟨β',app hb,.tail _ hm⟩
 ·obtain rfl:k=n:=by omega
  exact⟨β,app hs,.head _⟩
theorem aqI.fin{ps:List Pn}{w:Int}{S:Nat→Bool}{vs:List Sv}{n β:Nat}{A:ah}(h:aqI ps w S vs n A)(hs:vs[n]? =some (svB β)):aqI ps w S vs (n+1) ((β,bsO (apy ps w S n))::A):=by
 refine⟨.cons rfl h.1,fun k hk=>?_⟩
 rcases Nat.lt_or_ge k n with h1 | h1
 ·obtain⟨β',hb,hm⟩:=h.2 k h1
  exact⟨β',hb,.tail _ hm⟩
 ·obtain rfl:k=n:=by omega
  exact⟨β,hs,.head _⟩
theorem aq0(main:Side)(h:Hp)(ps:List Pn)(vp:Value)(w k:Int)(hf:Sl h Pn.row vp ps)(hok:iP ps):dV prog main ap7 #[vp,I w,.agg #[I k]] h [] (fun v A=>∃vs SL Fo,Os apY ags v vs SL∧vs.length=14∧aqI ps w (apM ps k) vs 14 Fo∧Sb (SL++Fo) A):=by
 obtain⟨a,cap,rfl⟩:=hf.dA
 have h4:=hok.len
 refine dV.aG aqv rfl (by show 3≤83;decide) [(0,.slice a ps.length cap),(1,I w),(2,.agg #[I k])] ⟨rfl,rfl,rfl,trivial⟩ ?_
 refine W.seq<|W.region rfl ?_
 refine Ops.box (cs:= #[I k]) (fun mZ=>?_)
 refine agb rfl rfl rfl<|pq<|W.seq<|W.region rfl ?_
 refine oe rfl wn rfl rfl (G8 (n:=13) rfl rfl rfl (by decide) (fun Vo=>?_))
 rw[QI]
 refine agb rfl rfl rfl<|pq<|W.seq<|W.seq<|W.region rfl<|agb rfl rfl rfl<|pq<|W.block ?_
 refine W.loop (σ:=Nat) (fun q=>q≤13) (fun q=>[(8,I q),(7,V9 Vo),(5,bI mZ),(0,.slice a ps.length cap),(1,I w)]) (fun q=>[(Vo,bsO fun e=>decide (e<q)&&apM ps k e),(mZ,.cells #[I k] ap5 (0,0))]) (fun q=>13-q) 0 (Nat.zero_le _) ⟨rfl,rfl,rfl,rfl,rfl,trivial⟩ (.eq (eqc (qg fun i _=>by simp))) ?_
 rintro q hq
 refine W.seq<|W.seq<|W.region rfl<|qm rfl rfl rfl ?_
 refine agW (Lr rfl rfl rfl) rfl ?_
 refine pq ?_
 refine W.bC rfl (fun c16=>?_) (fun c16=>?_)
 ·have Dn:q<13:=by omega
  have hsz:0+q*1<(bA fun e=>decide (e<q)&&apM ps k e).size:=by rw[nX];omega
  refine W.skip<|aA<|W.seq<|W.block<|W.region rfl<|qm rfl rfl rfl<|qm rfl rfl rfl<|qm rfl rfl rfl ?_
  refine ag2 rfl ?_
  refine qm rfl rfl rfl ?_
  refine cp (fun h' hE hL=>aq_ _ h' ps _ k q (hf.ext hE) (by omega)) ?_
  refine ag3 rfl ?_
  refine Ops.yG ?_
  refine Ops.nil<|dI<|aA<|W.region rfl<|qm rfl rfl rfl ?_
  refine ag1 rfl ?_
  refine agb rfl rfl rfl<|pq ?_
  refine⟨rfl,q+1,Dn,by omega,⟨rfl,rfl,rfl,rfl,rfl,trivial⟩,.eq ?_⟩
  rw[show 0+q*1=q by omega,Og Dn]
  refine eqc (qg fun i _=>?_)
  by_cases h1:i=q
  ·subst h1;simp
  ·rw[if_neg h1,show decide (i<q+1)=decide (i<q)from decide_eq_decide.2 (by omega)]
 ·obtain rfl:q=13:=by omega
  refine W.exit<|bP<|bP<|gG<|aA<|W.seq<|W.region rfl<|qm rfl rfl rfl ?_
  refine Ops.NK (cs:= #[V9 Vo]) (fun arO=>?_) rfl
  refine agb rfl rfl rfl<|pq<|W.seq<|W.seq<|W.region rfl<|agb rfl rfl rfl<|pq<|W.block ?_
  refine W.aa1 (σ:=Nat) (τ:=Nat×List Sv×Value×ah×ah) (fun m t=>m≤13∧t.2.1.length=m+1∧t.2.1[m]? =some (svB t.1)∧Os apY ags t.2.2.1 t.2.1 t.2.2.2.1∧aqI ps w (apM ps k) t.2.1 m t.2.2.2.2) (fun m t=>[(10,I (m+1:Nat)),(9,t.2.2.1),(0,.slice a ps.length cap),(1,I w)])
   (fun m t=>(t.1,bsO (apy ps w (apM ps k) m))::(t.2.2.2.1++t.2.2.2.2)) (fun m _=>13-m) 0 (Vo,[svB Vo],.slice (some ⟨arO,0,none⟩) 1 1,[(arO,.cells #[V9 Vo] apY (0,0))],[])
   ⟨Nat.zero_le _,rfl,rfl,.inr ⟨arO,_,1,[],rfl,rfl,rfl,Nat.le_refl _,Part.all (flat ags [svB Vo]),.nil⟩,.nil,fun k hk=>by omega⟩ ⟨rfl,rfl,rfl,rfl,trivial⟩ (.trans (.eq (eqc (qg fun i hi=>by simp[apy,hi]))) (.trans (.dF (List.Perm.swap ..)) (.cons (.cons (.nil (.cons rfl .nil)))))) ?_
  rintro m ⟨βp,vs,v,SL,Fo⟩ ⟨hm,hvl,hvm,hOs,hLA⟩
  dsimp only at*
  refine W.seq<|W.seq<|W.region rfl<|qm rfl rfl rfl ?_
  refine agW (Lr rfl rfl rfl) rfl ?_
  refine pq ?_
  refine W.bC rfl (fun c29=>?_) (fun c29=>?_)
  ·have am7:m<13:=by omega
   rcases id hOs with⟨he,-⟩ | ⟨βL,cL,asq,J,rfl,rfl,hcs,hle,hpt,hJ⟩
   ·rw[he]at hvl;cases hvl
   rw[hvl]at hOs hle⊢
   have hLm:cL[0+m*1]? =some (V9 βp):=Part.Bo hpt (i:=m) (p:=svB βp) hvm 0 (by decide)
   refine W.skip<|aA<|W.seq<|W.block<|W.seq<|W.region rfl ?_
   refine oe rfl wn rfl rfl (G8 (n:=13) rfl rfl rfl (by decide) (fun KY=>?_))
   rw[QI]
   refine agb rfl rfl rfl<|pq<|W.seq<|W.seq<|W.region rfl<|agb rfl rfl rfl<|pq<|W.block ?_
   refine W.loop (σ:=Nat) (fun q=>q≤13) (fun q=>[(12,I q),(11,V9 KY),(10,I (m+1:Nat)),(9,.slice (some ⟨βL,0,none⟩) (m+1) asq),(0,.slice a ps.length cap),(1,I w)]) (fun q=>(KY,bsO (apZ ps w (apM ps k) m q 0))::(βp,bsO (apy ps w (apM ps k) m))::(βL,.cells cL apY (0,0))::(J++Fo)) (fun q=>13-q) 0 (Nat.zero_le _) ⟨rfl,rfl,rfl,rfl,rfl,rfl,trivial⟩ (.eq (eqc (qg fun i _=>aqx i))) ?_
   rintro q hq
   refine W.seq<|W.seq<|W.region rfl<|qm rfl rfl rfl ?_
   refine agW (Lr rfl rfl rfl) rfl ?_
   refine pq ?_
   refine W.bC rfl (fun c34=>?_) (fun c34=>?_)
   ·have Dn:q<13:=by omega
    refine W.skip<|aA<|W.seq<|W.block<|W.seq<|W.region rfl<|agb rfl rfl rfl<|pq<|W.block ?_
    refine W.loop (σ:=Nat) (fun i=>i≤ps.length) (fun i=>[(13,I i),(12,I q),(11,V9 KY),(10,I (m+1:Nat)),(9,.slice (some ⟨βL,0,none⟩) (m+1) asq),(0,.slice a ps.length cap),(1,I w)]) (fun i=>(KY,bsO (apZ ps w (apM ps k) m q i))::(βp,bsO (apy ps w (apM ps k) m))::(βL,.cells cL apY (0,0))::(J++Fo)) (fun i=>ps.length-i) 0 (Nat.zero_le _) ⟨rfl,rfl,rfl,rfl,rfl,rfl,rfl,trivial⟩ .refl ?_
    rintro i hi
    refine W.seq<|W.seq<|W.region rfl<|qm rfl rfl rfl<|qm rfl rfl rfl ?_
    refine agW (dM rfl rfl) rfl ?_
    refine agW (fO rfl rfl rfl) rfl ?_
    refine pq ?_
    refine W.bC rfl (fun c40=>?_) (fun c40=>?_)
    ·have hil:i<ps.length:=by omega
     obtain⟨p,hp,-⟩:=has hil
     have hpi:=hok.pan p (List.mem_of_getElem? hp)
     obtain⟨b,off,c,E2,fz,hv,hbb,hx,hy,hz⟩:=hf.at hp
     cases hv
     have hx':c.extract (off+i*3) (off+i*3+3)= #[I p.lo,I p.hi,I p.sh]:=hx
     clear hx hz
     have hta:P9 ps q i=p.takes q:=by unfold P9;rw[hp]
     have hou:=Vl (q:=q) hp
     have SH:gy ps i q<13:=AZ
     have hg1:(bA (apZ ps w (apM ps k) m q i))[0+q*1]? =some (.bool (apZ ps w (apM ps k) m q i q)):=by rw[show 0+q*1=q by omega];exact L9 Dn
     have hg2:(bA (apy ps w (apM ps k) m))[0+gy ps i q*1]? =some (.bool (apy ps w (apM ps k) m (gy ps i q))):=by rw[show 0+gy ps i q*1=gy ps i q by omega];exact L9 SH
     have hsz:0+q*1<(bA (apZ ps w (apM ps k) m q i)).size:=by rw[nX];omega
     refine W.skip<|aA<|W.seq<|W.block ?_
     refine W.DR [(KY,bsO (apZ ps w (apM ps k) m q i)),(βp,bsO (apy ps w (apM ps k) m)),(βL,.cells cL apY (0,0))] (n:=36) rfl ?_
     refine xq 0 (aN rfl rfl) rfl ?_
     refine xq 1 (aN rfl rfl) rfl ?_
     refine xq 2 (aN rfl rfl) rfl ?_
     refine xq 3 (aN rfl rfl) rfl ?_
     first | refine xq 4 (G_ rfl rfl rfl) rfl ?_ | refine xq 4 (o_ rfl rfl rfl) rfl ?_
     refine xq 5 (iQ rfl rfl) rfl ?_
     refine xq 6 (aN rfl rfl) rfl ?_
     refine Any.RV (d':=49) (fun asr=>?_) (fun asr=>?_)
     ·refine ap (i:=7) rfl rfl rfl rfl rfl rfl ?_
      refine ap (i:=8) rfl rfl rfl rfl rfl rfl ?_
      refine ap (i:=9) rfl rfl rfl rfl rfl rfl ?_
      refine ap (i:=10) rfl rfl rfl rfl rfl rfl ?_
      refine apU (i:=11) rfl rfl rfl rfl rfl ?_
      refine apU (i:=12) rfl rfl rfl rfl rfl ?_
      refine apU (i:=13) rfl rfl rfl rfl rfl ?_
      refine apU (i:=14) rfl rfl rfl rfl rfl ?_
      refine apU (i:=15) rfl rfl rfl rfl rfl ?_
      refine apU (i:=16) rfl rfl rfl rfl rfl ?_
      refine ap (i:=17) rfl rfl rfl rfl rfl rfl ?_
      refine ap (i:=18) rfl rfl rfl rfl rfl rfl ?_
      refine apU (i:=19) rfl rfl rfl rfl rfl ?_
      refine apU (i:=20) rfl rfl rfl rfl rfl ?_
      refine apU (i:=21) rfl rfl rfl rfl rfl ?_
      refine apU (i:=22) rfl rfl rfl rfl rfl ?_
      refine apU (i:=23) rfl rfl rfl rfl rfl ?_
      refine apU (i:=24) rfl rfl rfl rfl rfl ?_
      refine apU (i:=25) rfl rfl rfl rfl rfl ?_
      refine apU (i:=26) rfl rfl rfl rfl rfl ?_
      refine apU (i:=27) rfl rfl rfl rfl rfl ?_
      refine apU (i:=28) rfl rfl rfl rfl rfl ?_
      refine apU (i:=29) rfl rfl rfl rfl rfl ?_
      refine apU (i:=30) rfl rfl rfl rfl rfl ?_
      refine apU (i:=31) rfl rfl rfl rfl rfl ?_
      refine ap (i:=32) rfl rfl rfl rfl rfl rfl ?_
      refine xq 33 (dG rfl rfl rfl) rfl ?_
      first | refine xq 34 (G_ rfl rfl rfl) rfl ?_ | refine xq 34 (o_ rfl rfl rfl) rfl ?_
      refine ae (i:=35) rfl an rfl rfl (eS rfl rfl rfl ?_)
      refine⟨.inl (by kernel_rfl),?_⟩
      refine az ?_
      refine dI<|aA<|W.region rfl<|qm rfl rfl rfl ?_
      refine ag1 rfl ?_
      refine agb rfl rfl rfl<|pq ?_
      refine⟨rfl,i+1,hil,by omega,⟨rfl,rfl,rfl,rfl,rfl,rfl,rfl,trivial⟩,.eq ?_⟩
      rw[show 0+q*1=q by omega,Og Dn]
      refine eqc (qg fun e _=>(ap1 ?_ e).symm)
      rw[apN,hta,←ap4]
      simp[*]
     ·refine aq (i:=7) (aN rfl rfl) rfl (b_ rfl rfl rfl rfl) rfl rfl ?_
      refine aq (i:=8) (aN rfl rfl) rfl (b_ rfl rfl rfl rfl) rfl rfl ?_
      refine aq (i:=9) (nG rfl rfl rfl) rfl (b_ rfl rfl rfl rfl) rfl rfl ?_
      refine aq (i:=10) (aN rfl rfl) rfl (b_ rfl rfl rfl rfl) rfl rfl ?_
      refine Any.ask (d':=53) (fun arQ=>?_) (fun arQ=>?_)
      ·refine aq (i:=11) (aN rfl rfl) rfl (b_ rfl rfl rfl rfl) rfl rfl ?_
       refine aq (i:=12) (aN rfl rfl) rfl (b_ rfl rfl rfl rfl) rfl rfl ?_
       first | refine aq (i:=13) (G_ rfl rfl rfl) rfl (b_ rfl rfl rfl rfl) rfl rfl ?_ | refine aq (i:=13) (o_ rfl rfl rfl) rfl (b_ rfl rfl rfl rfl) rfl rfl ?_
       first | refine aq (i:=14) (Bf rfl rfl) rfl (b_ rfl rfl rfl rfl) rfl rfl ?_ | refine aq (i:=14) (zi rfl rfl) rfl (b_ rfl rfl rfl rfl) rfl rfl ?_
       refine aq (i:=15) (aN rfl rfl) rfl (b_ rfl rfl rfl rfl) rfl rfl ?_
       refine Va (i:=16) (fun h' hE hL=>aik _ h' p q) ?_ (hS:=.inr (.one (.head _) (.one (.tail _ (.head _)) (.one (.tail _ (.tail _ (.head _))) .nil))))
       refine aq (i:=17) (dG rfl rfl rfl) rfl (b_ rfl rfl rfl rfl) rfl rfl ?_
       refine aq (i:=18) (aN rfl rfl) rfl (b_ rfl rfl rfl rfl) rfl rfl ?_
       refine Any.RV (d':=61) (fun arR=>?_) (fun arR=>?_)
       ·refine aq (i:=19) (aN rfl rfl) rfl (b_ rfl rfl rfl rfl) rfl rfl ?_
        refine aq (i:=20) (aN rfl rfl) rfl (b_ rfl rfl rfl rfl) rfl rfl ?_
        refine aqe (i:=21) (aaJ rfl rfl rfl (by omega) (by omega)) (show I _=I (m:Nat) by congr 1;omega) rfl (b_ rfl rfl rfl rfl) rfl rfl ?_
        first | refine aq (i:=22) (G_ rfl rfl rfl) rfl (b_ rfl rfl rfl rfl) rfl rfl ?_ | refine aq (i:=22) (o_ rfl rfl rfl) rfl (b_ rfl rfl rfl rfl) rfl rfl ?_
        refine aq (i:=23) (iQ rfl rfl) rfl (b_ rfl rfl rfl rfl) rfl rfl ?_
        refine aq (i:=24) (aN rfl rfl) rfl (b_ rfl rfl rfl rfl) rfl rfl ?_
        refine aq (i:=25) (aN rfl rfl) rfl (b_ rfl rfl rfl rfl) rfl rfl ?_
        first | refine aq (i:=26) (G_ rfl rfl rfl) rfl (b_ rfl rfl rfl rfl) rfl rfl ?_ | refine aq (i:=26) (o_ rfl rfl rfl) rfl (b_ rfl rfl rfl rfl) rfl rfl ?_
        first | refine aq (i:=27) (Bf rfl rfl) rfl (b_ rfl rfl rfl rfl) rfl rfl ?_ | refine aq (i:=27) (zi rfl rfl) rfl (b_ rfl rfl rfl rfl) rfl rfl ?_
        refine aq (i:=28) (aN rfl rfl) rfl (b_ rfl rfl rfl rfl) rfl rfl ?_
        refine Va (i:=29) (fun h' hE hL=>ab_ _ h' p q ⟨by omega,by omega⟩ ⟨by omega,by omega⟩) ?_ (hS:=.inr (.one (.head _) (.one (.tail _ (.head _)) (.one (.tail _ (.tail _ (.head _))) .nil))))
        rw[←hou]
        first | refine aq (i:=30) (G_ rfl rfl rfl) rfl (b_ rfl rfl rfl rfl) rfl rfl ?_ | refine aq (i:=30) (o_ rfl rfl rfl) rfl (b_ rfl rfl rfl rfl) rfl rfl ?_
        refine aq (i:=31) (iQ rfl rfl) rfl (b_ rfl rfl rfl rfl) rfl rfl ?_
        refine aq (i:=32) (dG rfl rfl rfl) rfl (b_ rfl rfl rfl rfl) rfl rfl ?_
        refine xq 33 (iH rfl rfl rfl) rfl ?_
        first | refine xq 34 (G_ rfl rfl rfl) rfl ?_ | refine xq 34 (o_ rfl rfl rfl) rfl ?_
        refine ae (i:=35) rfl an rfl rfl (eS rfl rfl rfl ?_)
        refine⟨.inl (by kernel_rfl),?_⟩
        refine az ?_
        refine dI<|aA<|W.region rfl<|qm rfl rfl rfl ?_
        refine ag1 rfl ?_
        refine agb rfl rfl rfl<|pq ?_
        refine⟨rfl,i+1,hil,by omega,⟨rfl,rfl,rfl,rfl,rfl,rfl,rfl,trivial⟩,.eq ?_⟩
        rw[show 0+q*1=q by omega,Og Dn]
        refine eqc (qg fun e _=>(ap1 ?_ e).symm)
        rw[apN,hta,←ap4]
        simp[*]
       ·refine ap (i:=19) rfl rfl rfl rfl rfl rfl ?_
        refine ap (i:=20) rfl rfl rfl rfl rfl rfl ?_
        refine ap (i:=21) rfl rfl rfl rfl rfl rfl ?_
        refine ap (i:=22) rfl rfl rfl rfl rfl rfl ?_
        refine ap (i:=23) rfl rfl rfl rfl rfl rfl ?_
        refine ap (i:=24) rfl rfl rfl rfl rfl rfl ?_
        refine ap (i:=25) rfl rfl rfl rfl rfl rfl ?_
        refine ap (i:=26) rfl rfl rfl rfl rfl rfl ?_
        refine ap (i:=27) rfl rfl rfl rfl rfl rfl ?_
        refine ap (i:=28) rfl rfl rfl rfl rfl rfl ?_
        refine ap (i:=29) rfl rfl rfl rfl rfl rfl ?_
        refine ap (i:=30) rfl rfl rfl rfl rfl rfl ?_
        refine ap (i:=31) rfl rfl rfl rfl rfl rfl ?_
        refine aq (i:=32) (iH rfl rfl rfl) rfl (b_ rfl rfl rfl rfl) rfl rfl ?_
        refine xq 33 (iH rfl rfl rfl) rfl ?_
        first | refine xq 34 (G_ rfl rfl rfl) rfl ?_ | refine xq 34 (o_ rfl rfl rfl) rfl ?_
        refine ae (i:=35) rfl an rfl rfl (eS rfl rfl rfl ?_)
        refine⟨.inl (by kernel_rfl),?_⟩
        refine az ?_
        refine dI<|aA<|W.region rfl<|qm rfl rfl rfl ?_
        refine ag1 rfl ?_
        refine agb rfl rfl rfl<|pq ?_
        refine⟨rfl,i+1,hil,by omega,⟨rfl,rfl,rfl,rfl,rfl,rfl,rfl,trivial⟩,.eq ?_⟩
        rw[show 0+q*1=q by omega,Og Dn]
        refine eqc (qg fun e _=>(ap1 ?_ e).symm)
        rw[apN,hta,←ap4]
        simp[*]
      ·refine ap (i:=11) rfl rfl rfl rfl rfl rfl ?_
       refine ap (i:=12) rfl rfl rfl rfl rfl rfl ?_
       refine ap (i:=13) rfl rfl rfl rfl rfl rfl ?_
       refine ap (i:=14) rfl rfl rfl rfl rfl rfl ?_
       refine ap (i:=15) rfl rfl rfl rfl rfl rfl ?_
       refine ap (i:=16) rfl rfl rfl rfl rfl rfl ?_
       refine aq (i:=17) (iH rfl rfl rfl) rfl (b_ rfl rfl rfl rfl) rfl rfl ?_
       refine aq (i:=18) (aN rfl rfl) rfl (b_ rfl rfl rfl rfl) rfl rfl ?_
       refine ap (i:=19) rfl rfl rfl rfl rfl rfl ?_
       refine ap (i:=20) rfl rfl rfl rfl rfl rfl ?_
       refine ap (i:=21) rfl rfl rfl rfl rfl rfl ?_
       refine ap (i:=22) rfl rfl rfl rfl rfl rfl ?_
       refine ap (i:=23) rfl rfl rfl rfl rfl rfl ?_
       refine ap (i:=24) rfl rfl rfl rfl rfl rfl ?_
       refine ap (i:=25) rfl rfl rfl rfl rfl rfl ?_
       refine ap (i:=26) rfl rfl rfl rfl rfl rfl ?_
       refine ap (i:=27) rfl rfl rfl rfl rfl rfl ?_
       refine ap (i:=28) rfl rfl rfl rfl rfl rfl ?_
       refine ap (i:=29) rfl rfl rfl rfl rfl rfl ?_
       refine ap (i:=30) rfl rfl rfl rfl rfl rfl ?_
       refine ap (i:=31) rfl rfl rfl rfl rfl rfl ?_
       refine aq (i:=32) (iH rfl rfl rfl) rfl (b_ rfl rfl rfl rfl) rfl rfl ?_
       refine xq 33 (iH rfl rfl rfl) rfl ?_
       first | refine xq 34 (G_ rfl rfl rfl) rfl ?_ | refine xq 34 (o_ rfl rfl rfl) rfl ?_
       refine ae (i:=35) rfl an rfl rfl (eS rfl rfl rfl ?_)
       refine⟨.inl (by kernel_rfl),?_⟩
       refine az ?_
       refine dI<|aA<|W.region rfl<|qm rfl rfl rfl ?_
       refine ag1 rfl ?_
       refine agb rfl rfl rfl<|pq ?_
       refine⟨rfl,i+1,hil,by omega,⟨rfl,rfl,rfl,rfl,rfl,rfl,rfl,trivial⟩,.eq ?_⟩
       rw[show 0+q*1=q by omega,Og Dn]
       refine eqc (qg fun e _=>(ap1 ?_ e).symm)
       rw[apN,hta,←ap4]
       simp[*]
    ·obtain rfl:i=ps.length:=by omega
     refine W.exit<|bP<|bP<|gG<|dI<|aA<|W.region rfl<|qm rfl rfl rfl ?_
     refine ag1 rfl ?_
     refine agb rfl rfl rfl<|pq ?_
     exact⟨rfl,q+1,Dn,by omega,⟨rfl,rfl,rfl,rfl,rfl,rfl,trivial⟩,.eq (eqc (qg fun e _=>(aqw e).symm))⟩
   ·obtain rfl:q=13:=by omega
    refine W.exit<|bP<|bP<|gG<|aA<|W.region rfl<|qm rfl rfl rfl<|qm rfl rfl rfl ?_
    refine Ops.NK (cs:= #[V9 KY]) (fun atc=>?_) rfl
    refine oe rfl wn rfl rfl (iW (row:=ags) (l':=[svB KY]) rfl rfl rfl hOs (.tail (.tail (.tail .head))) (fun h2 _ hl=>Sl.mk (hl atc _ (.head _)) rfl (Part.all (flat ags [svB KY]))) (by rw[hvl];simp;omega) (by decide) rfl (fun v' S' hS'=>?_))
    refine agb rfl rfl rfl<|Ops.nil<|dI<|aA<|W.region rfl<|qm rfl rfl rfl ?_
    refine ag1 rfl ?_
    refine agb rfl rfl rfl<|pq ?_
    refine⟨rfl,m+1,(KY,vs++[svB KY],v',S',(βp,bsO (apy ps w (apM ps k) m))::Fo),⟨am7,by simp[hvl],by dsimp only;rw[List.getElem?_append_right (by omega),hvl];simp,hS',hLA.next hvm⟩,by omega,⟨rfl,rfl,rfl,rfl,trivial⟩,?_⟩
    exact .skip rfl (.trans (.eq (eqc (qg fun e he=>(aqy he).symm))) (.cons (.trans (.dF (agQ fun y=>by simp only[List.count_append,List.count_cons,List.count_nil];omega)) .refl)))
  ·obtain rfl:m=13:=by omega
   refine W.exit<|bP<|bP<|gG<|aA<|W.seq<|W.region rfl<|qm rfl rfl rfl<|agb rfl rfl rfl<|Ops.nil ?_
   refine aA<|W.ret ?_
   exact mg (vs:=[_]) ⟨vs,SL,(βp,bsO (apy ps w (apM ps k) 13))::Fo,hOs,hvl,hLA.fin hvm,.dF List.perm_middle⟩
end Go.aS

/- The way that the document goes by layers. Conditions: none. -/
namespace Go.aS
end Go.aS

/- The way by layers, as the document has it. Conditions: none; over the given program. -/
namespace Go.aS
set_option maxRecDepth 100000
set_option maxHeartbeats 4000000
end Go.aS

/- SyrupLongest. Conditions: none; over the given program. -/
namespace Go.aS
set_option maxRecDepth 100000
set_option maxHeartbeats 4000000
end Go.aS

/- What goes round for ever comes to a ring. Conditions: none; no program in sight. -/
namespace Go.aS
set_option linter.unusedVariables false
end Go.aS

/- All ways of so many steps; the first of them. Conditions: none; no program in sight. -/
namespace Go.aS
set_option linter.unusedVariables false
end Go.aS

/- All lists of so many numbers, as a program makes them; all ascending ones. Conditions: none; no program in sight. -/
namespace Go.aS
set_option linter.unusedVariables false
end Go.aS

/- All lists of so many numbers. Conditions: none; over the given program. -/
namespace Go.aS
set_option maxRecDepth 100000
set_option maxHeartbeats 4000000
end Go.aS

/- Ways, as the laws make them. Conditions: none; over the given program. -/
namespace Go.aS
set_option maxRecDepth 100000
set_option maxHeartbeats 4000000
end Go.aS

/- Comparing truth values. Conditions: none; over any program. -/
namespace Go.aS
section
variable{x:Cx}{ρ:Env}{S:ah→Prop}{o:Oper}{v:Value}
end
end Go.aS

/- Shut blocks are put by. Conditions: none; over any program. -/
namespace Go.aS
theorem W.cut{x:Cx}{c c2:Code}{Q:Post}{ρ:Env}{ds:List Deferred}{F:ah}(L:Env)(G:ah)(H:W x c (fun e ρ' ds' F'=>e= .normal∧ds'=ds∧Sub L ρ'∧Sb G F') ρ ds F)(K:W x c2 Q L ds G):W x c (thn (fun ρ' ds' F'=>W x c2 Q ρ' ds' F') Q) ρ ds F:=
 W.mono H fun e ρ' ds' F' h=>by
  obtain⟨he,hd,hs,hb⟩:=h
  subst he hd
  exact aA (W.env hs (W.sb hb K))
theorem W.aiB{σ:Type}{x:Cx}{c c2:Code}{Q:Post}{ρ:Env}{ds:List Deferred}{F:ah}(ok:σ→Prop)(L:σ→Env)(G:σ→ah)(H:W x c (fun e ρ' ds' F'=>e= .normal∧ds'=ds∧∃s,ok s∧Sub (L s) ρ'∧Sb (G s) F') ρ ds F)(K:∀s,ok s→W x c2 Q (L s) ds (G s)):W x c (thn (fun ρ' ds' F'=>W x c2 Q ρ' ds' F') Q) ρ ds F:=
 W.mono H fun e ρ' ds' F' h=>by
  obtain⟨he,hd,s,ho,hs,hb⟩:=h
  subst he hd
  exact aA (W.env hs (W.sb hb (K s ho)))
end Go.aS

/- SyrupRing. Conditions: none; over the given program. -/
namespace Go.aS
set_option maxRecDepth 100000
set_option maxHeartbeats 4000000
end Go.aS

/- The shortest ring, as the document has it: the same as the program's. Conditions: none; over the given program. -/
namespace Go.aS
set_option maxRecDepth 100000
set_option maxHeartbeats 4000000
end Go.aS

/- From where syrups go round for ever: the list. Conditions: none; over the given program. -/
namespace Go.aS
set_option maxRecDepth 100000
set_option maxHeartbeats 4000000
def qsL(f:Nat→Bool):List Nat:=(List.range 13).filter f
theorem afm{f:Nat→Bool}{q:Nat}:q∈qsL f↔q<13∧f q=true:=by simp[qsL]
end Go.aS

/- The shortest way to treacle; what treacle comes of a syrup. Conditions: none; over the given program. -/
namespace Go.aS
set_option maxRecDepth 100000
set_option maxHeartbeats 4000000
def shF(ps:List Pn)(c q:Nat):Option Wy:=(Ah (dO ps c) q).find? fun w=>dY ps w.2
theorem ah_(main:Side)(h:Hp)(ps:List Pn)(vp:Value)(c q:Nat)(hf:Sl h Pn.row vp ps)(hok:iP ps)(hc:c<16)(hq:q<13):dV prog main ag6 #[xJ vp c,I q] h [] (fun v A=>∃w S,v= .tuple #[w,.bool (shF ps c q).isSome]∧(∀u,shF ps c q=some u→Vx S w (zs u.1))∧(shF ps c q=none→w= .slice none 0 0)∧Shut S∧Sb S A):=by
 obtain⟨a,cap,rfl⟩:=hf.dA
 refine dV.aG ahp rfl (by show 2≤17;decide) [(0,xJ (.slice a ps.length cap) c),(1,I q)] ⟨rfl,rfl,trivial⟩ ?_
 refine W.seq<|W.region rfl ?_
 refine Ops.box (cs:= #[.slice a ps.length cap,U8 c]) (fun yR=>?_)
 refine Ops.new (fun wC=>?_)
 refine Ops.new (fun mZ=>?_)
 refine pq<|W.seq<|W.seq<|W.region rfl ?_
 refine ag2 rfl ?_
 refine qm rfl rfl rfl ?_
 refine c0 (fun h' hE hL=>Yt _ h' _ c q rfl) (fun v A' hv=>?_)
 obtain⟨b1,b2,rfl,rfl⟩:=hv
 refine pq<|W.block ?_
 refine W.abW (Val:=adG) (xs:=Ah (dO ps c) q) rfl rfl rfl
  (fun k A=>(∀y∈(Ah (dO ps c) q).take k,dY ps y.2=false)∧A=[(mZ,.cells #[.bool false] RS (0,0)),(wC,.cells #[.slice none 0 0] nS (0,0)),(yR,.cells #[.slice a ps.length cap,U8 c] bG (0,0))])
  (fun k v e A=>e= .ret∧∃w vw,(Ah (dO ps c) q)[k]? =some w∧(∀y∈(Ah (dO ps c) q).take k,dY ps y.2=false)∧dY ps w.2=true∧v= .agg #[vw,I w.2]∧A=[(mZ,.cells #[.bool true] RS (0,0)),(wC,.cells #[vw] nS (0,0))])
  (.tail (.tail .all)) ⟨by simp,rfl⟩ (fun h' hE hL=>Qm _ h' ps _ c q b1 b2 _ _ _ _ (hf.ext hE) hok hc (by omega) (hL b1 _ (.head _)) (hL b2 _ (.tail _ (.head _)))) ?_ ?_
 ·rintro k p v S A1 hp ⟨vw,rfl,hv1,hvR⟩ ⟨hno,rfl⟩ l h1 hE1 hL1 hS1
  obtain⟨av,cv,rfl⟩:=(hvR.2 _ hS1).dA
  have hlen:(zs p.1).length=p.1.length:=kT _
  refine W.region rfl ?_
  refine Ops.new (fun yC=>?_)
  refine Ops.jP (vs:= #[.slice av (zs p.1).length cv,I p.2]) ?_
  refine Ops.nil ?_
  refine⟨rfl,rfl,fun h0 hE0 hL0=>?_⟩
  intro hS0
  refine W.block<|W.seq<|W.region rfl ?_
  refine ag2 rfl ?_
  refine agY rfl ?_
  refine agX rfl ?_
  refine cp (fun h' hE hL=>Si _ h' ps _ c p.2 (hf.ext (hE0.trans hE)) hok.len) ?_
  refine pq ?_
  refine W.cond rfl (fun c14=>?_) (fun c14=>?_)
  ·refine W.seq<|W.region rfl ?_
   refine agY rfl ?_
   refine agX rfl ?_
   refine Ops.yG ?_
   refine Ops.yG ?_
   refine pq<|W.ret<|cZ ?_
   exact⟨rfl,.inr ⟨rfl,_,⟨rfl,p,_,hp,hno,c14,rfl,rfl⟩,.skip rfl (.cons (.cons (.nil (.cons rfl .nil))))⟩⟩
  ·refine W.skip<|dI ?_
   exact⟨rfl,.inl ⟨rfl,_,⟨Qn (p:=fun w:Wy=>dY ps w.2) hp hno (by simpa using c14),rfl⟩,.skip rfl .refl⟩⟩
 ·rintro e2 A2 (⟨rfl,hno,rfl⟩ | ⟨k,p,v,S,B,hp,⟨vw,rfl,hv1,hvR⟩,⟨rfl,w,vw',hw,hno,hr,hv,rfl⟩,rfl⟩) d
  ·refine dI<|aA<|W.seq<|W.region rfl ?_
   refine Ops.yG ?_
   refine Ops.yG ?_
   refine pq<|W.ret ?_
   have e3:shF ps c q=none:=Vz hno
   refine lvm (hl:=At.head) (QJ (hv:=rSc (rSc zJ)) ?_)
   rw[e3]
   exact⟨_,[],rfl,(fun u h=>by cases h),(fun _=>rfl),.nil,.nil (by repeat(first | exact Shut.nil | refine Shut.cons rfl ?_))⟩
  ·obtain rfl:=Option.some.inj (hp.symm.trans hw)
   obtain rfl:vw=vw':=by simpa using hv
   have e3:shF ps c q=some p:=Ut hp hno hr
   refine cZ<|aY ?_
   refine lvm (hl:=At.head) (QJ (hv:=rSc (rSc zJ)) ?_)
   rw[e3]
   exact⟨_,S,rfl,(fun u h=>by cases h;exact hvR),(fun h=>by cases h),hvR.1,.skip rfl (.skip rfl (.skip rfl (.skip rfl (.skip rfl .refl))))⟩
end Go.aS

/- SyrupShortest. Conditions: none; over the given program. -/
namespace Go.aS
set_option maxRecDepth 100000
set_option maxHeartbeats 4000000
end Go.aS

/- The shortest way, as the document has it: the same as the program's. Conditions: none; over the given program. -/
namespace Go.aS
set_option maxRecDepth 100000
set_option maxHeartbeats 4000000
theorem arX{ps:List Pn}:apM ps (-1)=fun k:Nat=>dY ps k:=funext fun e=>by rw[apM,if_neg (by omega)]
end Go.aS

/- For ever, as the document has it. Conditions: none; over the given program. -/
namespace Go.aS
set_option maxRecDepth 100000
set_option maxHeartbeats 4000000
end Go.aS

/- The longest way and how many ways there are, as the document has them. Conditions: none; over the given program. -/
namespace Go.aS
set_option maxRecDepth 100000
set_option maxHeartbeats 4000000
theorem asx{f:Nat→Bool}{n k:Nat}(hk:k<n)(h:f k=true):((List.range n).filter f)[((List.range k).filter f).length]? =some k:=by
 have e:List.range n=List.range k++((List.range (n-k)).map (k+ ·)):=by rw[←List.range_add];congr 1;omega
 obtain⟨d,hd⟩:∃d,n-k=d+1:=⟨n-k-1,by omega⟩
 rw[e,List.filter_append,List.getElem?_append_right (Nat.le_refl _),Nat.sub_self,hd,List.range_succ_eq_map,List.map_cons,List.filter_cons,Nat.add_zero,if_pos h]
 rfl
def tkn(ps:List Pn)(q i:Nat):Nat:=((List.range i).filter fun i=>P9 ps q i).length
theorem asR{ps:List Pn}{q i:Nat}(h4:ps.length≤4)(hi:i<ps.length)(h:P9 ps q i=true):(dO ps 0 q)[tkn ps q i]? =some (i,gy ps i q):=by
 rw[dO,List.getElem?_map,ale h4,tkn,asx hi h];rfl
theorem asy{ps:List Pn}{q i:Nat}(h:P9 ps q i=true):tkn ps q (i+1)=tkn ps q i+1:=by
 rw[tkn,List.range_succ,List.filter_append,List.length_append,List.filter_cons,if_pos h];rfl
theorem ase{ps:List Pn}{q i:Nat}(h:P9 ps q i=false):tkn ps q (i+1)=tkn ps q i:=by
 rw[tkn,List.range_succ,List.filter_append,List.length_append,List.filter_cons,if_neg (by simp[h])];rfl
theorem asz{ps:List Pn}{q:Nat}(h4:ps.length≤4):tkn ps q ps.length=(dO ps 0 q).length:=by
 rw[dO,List.length_map,ale h4,tkn]
end Go.aS

/- How many ways there are, as the document has it. Conditions: none; over the given program. -/
namespace Go.aS
set_option maxRecDepth 100000
set_option maxHeartbeats 4000000
theorem atS{ps:List Pn}{q:Int}(h:dY ps q=true){p:Pn}(hp:p∈ps):p.takes q=false:=by
 induction ps with
 | nil=>cases hp
 | cons x r ih=>
  rw[show dY (x::r) q=(!x.takes q&&dY r q)from rfl,Bool.and_eq_true]at h
  rcases List.mem_cons.1 hp with rfl | hp
  ·simpa using h.1
  ·exact ih h.2 hp
theorem asX(main:Side)(ps:List Pn)(vp:Value)(hok:iP ps):∀(n q:Nat) (h:Hp),Sl h Pn.row vp ps→q<13→n≤13→dD (dO ps 0) n q=false→Pu prog main aso #[vp,I q] h (I (og (dO ps 0) (fun k=>dY ps k) q).2):=by
 intro n
 induction n with
 | zero=>intro q h hf hq hn hw;cases hw
 | succ n ih=>
  intro q h hf hq hn hw
  obtain⟨a,cap,rfl⟩:=hf.dA
  have h4:=hok.len
  have hac:=fun j=>xM (T:=fun k=>dY ps k) (j:=j) (fun k=>EK) hw (by omega)
  have hall:=JZ (T:=fun k=>dY ps k) hw (by omega)
  rw[←asz h4]at hall
  refine dV.aG asL rfl (by show 2≤33;decide) [(0,.slice a ps.length cap),(1,I q)] ⟨rfl,rfl,trivial⟩ ?_
  refine W.seq<|W.region rfl<|agb rfl rfl rfl<|pq<|W.seq<|W.seq<|W.region rfl<|qm rfl rfl rfl<|qm rfl rfl rfl ?_
  refine cp (fun h' hE hL=>ah6 _ h' ps _ q (hf.ext hE) (by omega)) ?_
  refine pq ?_
  refine W.cond rfl (fun c9=>?_) (fun c9=>?_)
  ·have hz0:tkn ps q ps.length=0:=by
    rw[tkn,List.length_eq_zero_iff,List.filter_eq_nil_iff]
    intro i hi ht
    unfold P9 at ht
    split at ht
    ·rename_i p hp
     have:=atS c9 (List.mem_of_getElem? hp)
     rw[this]at ht;cases ht
    ·cases ht
   refine W.seq<|W.region rfl<|agb rfl rfl rfl<|pq<|W.ret<|aY ?_
   refine uZ ?_
   rw[←hall,hz0,Yu,if_pos c9] <;>rfl
  ·refine W.skip<|aA<|W.seq<|W.region rfl<|agb rfl rfl rfl<|pq<|W.seq<|W.seq<|W.region rfl ?_
   refine agb rfl rfl rfl<|pq<|W.block ?_
   refine W.loop (σ:=Nat) (fun i=>i≤ps.length) (fun i=>[(6,I i),(5,I (oh (dO ps 0) (fun k=>dY ps k) q (tkn ps q i)).2),(0,.slice a ps.length cap),(1,I q)]) (fun _=>[]) (fun i=>ps.length-i) 0 (Nat.zero_le _) ⟨rfl,lk rfl (show I _=I _ by rw[show tkn ps q 0=0 from rfl,Yu,if_neg (by simpa using c9)] <;>rfl),rfl,rfl,trivial⟩ .refl ?_
   rintro i hi
   refine W.seq<|W.seq<|W.region rfl<|qm rfl rfl rfl<|qm rfl rfl rfl ?_
   refine agW (dM rfl rfl) rfl ?_
   refine agW (fO rfl rfl rfl) rfl ?_
   refine pq ?_
   refine W.bC rfl (fun c13=>?_) (fun c13=>?_)
   ·have hil:i<ps.length:=by omega
    obtain⟨p,hp,-⟩:=has hil
    have hpi:=hok.pan p (List.mem_of_getElem? hp)
    obtain⟨b,off,c,E2,fz,hv,hbb,hx,hy,hz⟩:=hf.at hp
    cases hv
    have hx':c.extract (off+i*3) (off+i*3+3)= #[I p.lo,I p.hi,I p.sh]:=hx
    clear hx hz
    have hta:P9 ps q i=p.takes q:=by unfold P9;rw[hp]
    have hou:=Vl (q:=q) hp
    have SH:gy ps i q<13:=AZ
    refine W.skip<|aA<|W.seq<|W.block<|W.seq<|W.region rfl<|qm rfl rfl rfl<|qm rfl rfl rfl ?_
    refine ag3 rfl ?_
    refine ag2 rfl ?_
    refine qm rfl rfl rfl ?_
    refine cp (fun h' hE hL=>aik _ h' p q) ?_
    refine pq ?_
    refine W.cond rfl (fun c21=>?_) (fun c21=>?_)
    ·refine W.region rfl<|qm rfl rfl rfl<|qm rfl rfl rfl<|qm rfl rfl rfl<|qm rfl rfl rfl ?_
     refine ag3 rfl ?_
     refine ag2 rfl ?_
     refine qm rfl rfl rfl ?_
     refine cp (fun h' hE hL=>ab_ _ h' p q ⟨by omega,by omega⟩ ⟨by omega,by omega⟩) ?_
     rw[←hou]
     have htt:P9 ps q i=true:=by rw[hta];assumption
     have hat:=asR h4 hil htt
     have hwo:dD (dO ps 0) n (gy ps i q)=false:=wz hw (List.mem_of_getElem? hat)
     have ha1:=hac (tkn ps q i+1)
     rw[A8 hat]at ha1
     simp only[yE]at ha1
     refine cp (fun h' hE hL=>ih (gy ps i q) h' (hf.ext hE) SH (by omega) hwo) ?_
     refine ag1 rfl ?_
     refine agb rfl rfl rfl<|Ops.nil<|dI<|aA<|W.region rfl<|qm rfl rfl rfl ?_
     refine ag1 rfl ?_
     refine agb rfl rfl rfl<|pq ?_
     refine⟨rfl,i+1,hil,by omega,⟨rfl,lk rfl ?_,rfl,rfl,trivial⟩,.refl⟩
     rw[asy htt,A8 hat]
     simp only[yE]
     show I _=I _
     congr 1
    ·refine W.skip<|dI<|aA<|W.region rfl<|qm rfl rfl rfl ?_
     refine ag1 rfl ?_
     refine agb rfl rfl rfl<|pq ?_
     refine⟨rfl,i+1,hil,by omega,⟨rfl,lk rfl ?_,rfl,rfl,trivial⟩,.refl⟩
     rw[ase (by rw[hta];simpa using c21)]
   ·obtain rfl:i=ps.length:=by omega
    refine W.exit<|bP<|bP<|gG<|aA<|W.seq<|W.region rfl<|qm rfl rfl rfl<|agb rfl rfl rfl<|Ops.nil ?_
    refine aA<|W.ret ?_
    refine uZ ?_
    rw[hall] <;>rfl
theorem asY(main:Side)(h:Hp)(ps:List Pn)(vp:Value)(q:Int)(hf:Sl h Pn.row vp ps):Pu prog main asi #[vp,I q] h (.tuple #[I (qh ps q).1.2,I (qh ps q).2]):=by
 obtain⟨a,cap,rfl⟩:=hf.dA
 refine dV.aG asI rfl (by show 2≤21;decide) [(0,.slice a ps.length cap),(1,I q)] ⟨rfl,rfl,trivial⟩ ?_
 refine W.seq<|W.region rfl<|agb rfl rfl rfl<|agb rfl rfl rfl<|pq<|W.seq<|W.seq<|W.region rfl<|qm rfl rfl rfl ?_
 refine qm rfl rfl rfl ?_
 refine cp (fun h' hE hL=>ald _ h' ps _ q (hf.ext hE)) ?_
 refine agb rfl rfl rfl<|pq<|W.seq<|W.region rfl<|qm rfl rfl rfl ?_
 refine agW (nG rfl rfl rfl) rfl ?_
 refine pq ?_
 refine W.bC rfl (fun c11=>?_) (fun c11=>?_)
 ·refine W.seq<|W.region rfl<|qm rfl rfl rfl<|agb rfl rfl rfl<|agb rfl rfl rfl<|pq<|W.ret<|aY ?_
  refine mg (vs:=[_,_]) ⟨?_,.nil⟩
  rw[qh,if_pos (by assumption)] <;>rfl
 ·have h0:kU ps [q]=0:=by simpa using c11
  obtain⟨hok,hq0,hq12⟩:=Sj h0
  have h4:=hok.len
  obtain⟨q,rfl⟩:∃n:Nat,q=n:=⟨q.toNat,by omega⟩
  have Dn:q<13:=by omega
  have hx:(bA (apy ps (-1) (fun _=>true) 13))[0+q*1]? =some (.bool (dD (dO ps 0) 13 q)):=by rw[show 0+q*1=q by omega,L9 Dn,ap2 h4] <;>rfl
  refine W.skip<|aA<|W.seq<|W.seq<|W.region rfl<|qm rfl rfl rfl ?_
  refine c0 (fun h' hE hL=>aqY _ h' ps _ (hf.ext hE) hok) (fun v A' hv=>?_)
  obtain⟨β,rfl,hsb⟩:=hv
  refine Ops.sb (F':=[(β,bsO (apy ps (-1) (fun _=>true) 13))]++[]) (hsb.app .refl) ?_
  refine qm rfl rfl rfl ?_
  refine ag3 rfl ?_
  refine agX rfl ?_
  refine pq ?_
  refine W.cond rfl (fun c17=>?_) (fun c17=>?_)
  ·refine W.seq<|W.region rfl<|agb rfl rfl rfl<|agb rfl rfl rfl<|pq<|W.ret<|aY ?_
   refine mg (vs:=[_,_]) ⟨?_,.cons rfl .nil⟩
   rw[qh,if_neg (by assumption),Int.toNat_natCast,if_pos (by assumption)] <;>rfl
  ·refine W.skip<|aA<|W.seq<|W.region rfl<|qm rfl rfl rfl<|qm rfl rfl rfl ?_
   refine cp (fun h' hE hL=>asX _ ps _ hok 13 q h' (hf.ext hE) Dn (Nat.le_refl _) (by simpa using c17)) ?_
   refine agb rfl rfl rfl<|agb rfl rfl rfl<|pq<|W.ret ?_
   refine mg (vs:=[_,_]) ⟨?_,.cons rfl .nil⟩
   rw[qh,if_neg (by assumption),Int.toNat_natCast,if_neg (by rw[c17];simp)] <;>rfl
end Go.aS

/- Where it may end, as the document has it. Conditions: none; over the given program. -/
namespace Go.aS
set_option maxRecDepth 100000
set_option maxHeartbeats 4000000
theorem asA(main:Side)(h:Hp)(ps:List Pn)(w:Int)(S:Nat→Bool)(vs:List Sv)(vl:Value)(q:Nat)(hvl:vs.length=14)(hv:Sl h ags vl vs)(ahc:∀k,k<14→∃β E z,vs[k]? =some (svB β)∧h β=some (.cells (bA (apy ps w S k)) E z))(hq:q<13):Pu prog main arz #[vl,I q] h (.bool ((List.range 14).any fun n=>apy ps w S n q)):=by
 obtain⟨al,cl,rfl⟩:=hv.dA
 refine dV.aG arW rfl (by show 2≤19;decide) [(0,.slice al vs.length cl),(1,I q)] ⟨rfl,rfl,trivial⟩ ?_
 refine W.seq<|W.region rfl<|agb rfl rfl rfl<|pq<|W.seq<|W.seq<|W.region rfl<|agb rfl rfl rfl<|Ops.nil ?_
 refine aA<|W.block ?_
 refine W.loop (σ:=Nat) (fun n=>n≤14∧(List.range n).any (fun n=>apy ps w S n q)=false) (fun n=>[(5,I n),(0,.slice al vs.length cl),(1,I q)]) (fun _=>[]) (fun n=>14-n) 0 ⟨Nat.zero_le _,rfl⟩ ⟨rfl,rfl,rfl,trivial⟩ .refl ?_
 rintro n ⟨hn,hno⟩
 refine W.seq<|W.seq<|W.region rfl<|qm rfl rfl rfl<|qm rfl rfl rfl ?_
 refine agW (dM rfl rfl) rfl ?_
 refine agW (fO rfl rfl rfl) rfl ?_
 refine pq ?_
 refine W.bC rfl (fun c9=>?_) (fun c9=>?_)
 ·have agu:n<14:=by omega
  obtain⟨Fe,Em,zm,hvm,hbm⟩:=ahc n agu
  obtain⟨bl,arS,ccl,El,fzl,hel,hbl,-,-,hzl⟩:=hv.at hvm
  cases hel
  have hxl:ccl[arS+n*1]? =some (V9 Fe):=hzl 0 (by decide)
  clear hzl
  have hg2:(bA (apy ps w S n))[0+q*1]? =some (.bool (apy ps w S n q)):=by rw[show 0+q*1=q by omega];exact L9 hq
  refine W.skip<|aA<|W.seq<|W.block<|W.seq<|W.region rfl<|qm rfl rfl rfl<|qm rfl rfl rfl ?_
  refine ag3 rfl ?_
  refine agX rfl ?_
  refine qm rfl rfl rfl ?_
  refine ag3 rfl ?_
  refine agX rfl ?_
  refine pq ?_
  refine W.cond rfl (fun c18=>?_) (fun c18=>?_)
  ·refine W.seq<|W.region rfl<|agb rfl rfl rfl<|pq<|W.ret<|cZ<|aY<|aY<|cZ ?_
   refine aY ?_
   refine uZ ?_
   exact congrArg Value.bool (List.any_eq_true.2 ⟨n,List.mem_range.2 agu,c18⟩).symm
  ·refine W.skip<|dI<|aA<|W.region rfl<|qm rfl rfl rfl ?_
   refine ag1 rfl ?_
   refine agb rfl rfl rfl<|pq ?_
   exact⟨rfl,n+1,⟨agu,by rw[List.range_succ,List.any_append,hno];simpa using c18⟩,by omega,⟨rfl,rfl,rfl,trivial⟩,.refl⟩
 ·obtain rfl:n=14:=by omega
  refine W.exit<|bP<|bP<|gG<|aA<|W.seq<|W.region rfl<|agb rfl rfl rfl<|pq ?_
  refine W.ret ?_
  refine uZ ?_
  exact congrArg Value.bool hno.symm
end Go.aS

/- Pans that are forced. Conditions: none; over the given program. -/
namespace Go.aS
set_option maxRecDepth 100000
set_option maxHeartbeats 4000000
def noW(ps:List Pn)(q p:Nat):Bool:=(shF ps (2 ^ p) q).isNone
def FoF(ps:List Pn)(q:Int):List Nat×Int:=
 if kU ps [q]≠0 then([],kU ps [q])else
  match shF ps 0 q.toNat with
  | some _=>((List.range ps.length).filter (noW ps q.toNat),0)
  | none=>([],11)
def aif(ps:List Pn)(q k:Nat):Int→Option Value:=fun x=>if 0≤x∧x<k∧noW ps q x.toNat=true then some (.bool true)else none
theorem ajm{ps:List Pn}{q:Nat}:aif ps q 0=fun _=>none:=by
 funext x;rw[aif,if_neg (by omega)]
theorem ajb{ps:List Pn}{q k:Nat}(h:noW ps q k=true):(fun x=>if x=(k:Int)then some (.bool true)else aif ps q k x)=aif ps q (k+1):=by
 funext x
 simp only[aif]
 by_cases hx:x=(k:Int)
 ·subst hx
  rw[if_pos rfl,if_pos ⟨by omega,by omega,by rw[Int.toNat_natCast];exact h⟩]
 ·rw[if_neg hx]
  by_cases h2:0≤x∧x<(k:Int)∧noW ps q x.toNat=true
  ·rw[if_pos h2,if_pos ⟨h2.1,by omega,h2.2.2⟩]
  ·rw[if_neg h2,if_neg fun h3=>h2 ⟨h3.1,by omega,h3.2.2⟩]
theorem ai4{ps:List Pn}{q k:Nat}(h:noW ps q k=false):(fun x=>if x=(k:Int)then none else if x=(k:Int)then some (.bool true)else aif ps q k x)=aif ps q (k+1):=by
 funext x
 simp only[aif]
 by_cases hx:x=(k:Int)
 ·subst hx
  rw[if_pos rfl,if_neg fun h3=>by rw[Int.toNat_natCast,h]at h3;cases h3.2.2]
 ·rw[if_neg hx,if_neg hx]
  by_cases h2:0≤x∧x<(k:Int)∧noW ps q x.toNat=true
  ·rw[if_pos h2,if_pos ⟨h2.1,by omega,h2.2.2⟩]
  ·rw[if_neg h2,if_neg fun h3=>h2 ⟨h3.1,by omega,h3.2.2⟩]
theorem ajc{ps:List Pn}{q k p:Nat}(h:p<k):(aif ps q k (p:Int)).getD (.bool false)= .bool (noW ps q p):=by
 rw[aif]
 by_cases hp:noW ps q p=true
 ·rw[if_pos ⟨by omega,by omega,by rw[Int.toNat_natCast];exact hp⟩,hp];rfl
 ·rw[if_neg fun h3=>hp (by rw[Int.toNat_natCast]at h3;exact h3.2.2),Bool.eq_false_iff.2 hp];rfl
theorem akS:∀k:Nat,k<4→IntKind.u8.wrap (1*2 ^ (min ((k:Nat):Int).toNat IntKind.u8.bits))=((2 ^ k:Nat):Int):=by decide
theorem ajd{k:Nat}(h:k<4):2 ^ k<16:=Nat.pow_lt_pow_right (a:=2) (by omega) h

theorem ai5(main:Side)(h:Hp)(ps:List Pn)(vp:Value)(q:Int)(hf:Sl h Pn.row vp ps):dV prog main ahn #[vp,I q] h [] (fun v A=>∃w S,v= .tuple #[w,I (FoF ps q).2]∧Os dL fH w (zs (FoF ps q).1) S∧Sb S A):=by
 obtain⟨a,cap,rfl⟩:=hf.dA
 refine dV.aG ahR rfl (by show 2≤69;decide) [(0,.slice a ps.length cap),(1,I q)] ⟨rfl,rfl,trivial⟩ ?_
 refine W.seq<|W.region rfl<|agb rfl rfl rfl<|agb rfl rfl rfl<|pq<|W.seq<|W.region rfl<|qm rfl rfl rfl<|qm rfl rfl rfl ?_
 refine Ops.NK (cs:= #[I q]) (fun akT=>?_) rfl
 refine cp (fun h' hE hL=>Am _ h' ps _ [q] _ (hf.ext hE) (Sl.mk (hL akT _ (.head _)) rfl (Part.all [I q])) (by simp)) ?_
 refine qm rfl rfl rfl<|oq (bD rfl rfl rfl) rfl wn rfl rfl<|oq (bD rfl rfl rfl) rfl wn rfl rfl ?_
 have hcs:∃cs:Array Value,(if kU ps [q]=0 then xJ (.slice a ps.length cap) 0 else LZ)= .agg cs∧cs.size=2∧ones cs.toList=true:=by
  split <;>exact⟨_,rfl,rfl,rfl⟩
 obtain⟨cs,hcs,hcs2,hcs1⟩:=hcs
 rw[hcs]
 refine Ops.new (fun yC=>?_)
 refine Ops.jP (n:=2) (vs:=cs) ?_ (hy:=by rfl) (hn:=hcs2) (h1:=hcs1)
 refine agb rfl rfl rfl<|pq<|W.seq<|W.seq<|W.region rfl<|qm rfl rfl rfl ?_
 refine agW (nG rfl rfl rfl) rfl ?_
 refine pq ?_
 refine W.bC rfl (fun c24=>?_) (fun c24=>?_)
 ·have e:FoF ps q=([],kU ps [q]):=by rw[FoF,if_pos (by simpa using c24)]
  refine W.seq<|W.region rfl<|qm rfl rfl rfl<|agb rfl rfl rfl<|agb rfl rfl rfl<|pq<|W.ret<|aY ?_
  refine mg (vs:=[_,_]) ?_
  rw[e]
  exact⟨_,[],rfl,.nil .nil,.nil (by repeat(first | exact Shut.nil | refine Shut.cons rfl ?_))⟩
 ·have h0:kU ps [q]=0:=by simpa using c24
  obtain⟨hok,hq0,hq12⟩:=Sj h0
  have h4:=hok.len
  rw[if_pos h0]at hcs
  cases hcs
  obtain⟨q,rfl⟩:∃n:Nat,q=n:=⟨q.toNat,by omega⟩
  have e:FoF ps q=match shF ps 0 q with | some _=>((List.range ps.length).filter (noW ps q),0) | none=>([],11):=by rw[FoF,if_neg (by simpa using h0),Int.toNat_natCast]
  refine W.skip<|aA<|W.seq<|W.seq<|W.region rfl ?_
  refine ag2 rfl ?_
  refine qm rfl rfl rfl ?_
  refine c0 (fun h' hE hL=>ah_ _ h' ps _ 0 q (hf.ext hE) hok (by decide) (by omega)) (fun v A' hv=>?_)
  obtain⟨w,S,rfl,-,-,hSS,hsb⟩:=hv
  refine Ops.sb (F':=[(yC,.cells #[.slice a ps.length cap,U8 0] bG (0,0))]) (.left (.right (B:=[_]) .refl (.cons rfl .nil)) (Sb.trans (.nil hSS) hsb).shut) ?_
  refine qm rfl rfl rfl<|oq (bD rfl rfl rfl) rfl wn rfl rfl<|oq (bD rfl rfl rfl) rfl wn rfl rfl<|agb rfl rfl rfl<|agb rfl rfl rfl<|pq<|W.seq<|W.region rfl<|qm rfl rfl rfl ?_
  refine agW (xU rfl rfl) rfl ?_
  refine pq ?_
  refine W.cond rfl (fun c33=>?_) (fun c33=>?_)
  ·have e2:shF ps 0 q=none:=by
    cases hh:shF ps 0 q with
    | none=>rfl
    | some u=>rw[hh]at c33;simp at c33
   rw[e2]at e
   refine W.seq<|W.region rfl<|agb rfl rfl rfl<|agb rfl rfl rfl<|pq<|W.ret<|aY ?_
   refine mg (vs:=[_,_]) ?_
   rw[e]
   exact⟨_,[],rfl,.nil .nil,.nil (by repeat(first | exact Shut.nil | refine Shut.cons rfl ?_))⟩
  ·obtain⟨u,e2⟩:∃u,shF ps 0 q=some u:=by
    cases hh:shF ps 0 q with
    | none=>rw[hh]at c33;simp at c33
    | some u=>exact⟨u,rfl⟩
   rw[e2]at e
   refine W.skip<|aA<|W.seq<|W.region rfl ?_
   refine oe rfl wn rfl rfl (Md rfl (fun ahd hn hm=>?_))
   refine agb rfl rfl rfl<|pq<|W.seq<|W.seq<|W.region rfl<|qm rfl rfl rfl ?_
   refine agW (dM rfl rfl) rfl ?_
   refine qm rfl rfl rfl<|pq<|W.block ?_
   refine W.loop (σ:=Nat×Array MapEntry×Nat×Nat) (fun s=>s.1≤ps.length∧ER s.2.1 (aif ps q s.1)∧s.2.2.2<16) (fun s=>[(37,I s.1),(36,I ps.length),(10,.map (some ahd)),(6,.pointer (some ⟨yC,0,none⟩)),(1,I q),(0,.slice a ps.length cap)])
    (fun s=>[(ahd,.map s.2.1 s.2.2.1),(yC,.cells #[.slice a ps.length cap,U8 s.2.2.2] bG (0,0))]) (fun s=>ps.length-s.1) (0, #[],0,0) ⟨Nat.zero_le _,by show ER #[] (aif ps q 0);rw[ajm];exact ER.nil,by decide⟩ ⟨rfl,rfl,rfl,rfl,rfl,rfl,trivial⟩ .refl ?_
   rintro⟨k,es,ck,c⟩ ⟨hk,hM,hc⟩
   dsimp only at*
   refine W.seq<|W.region rfl ?_
   refine agW (fO rfl rfl rfl) rfl ?_
   refine pq<|W.seq ?_
   refine W.bC rfl (fun c38=>?_) (fun c38=>?_)
   ·have hkl:k<ps.length:=by omega
    refine W.skip<|aA<|W.seq<|W.block<|W.seq<|W.region rfl<|qm rfl rfl rfl<|agb rfl rfl rfl<|pq ?_
    refine W.seq<|W.region rfl<|qm rfl rfl rfl<|qm rfl rfl rfl ?_
    refine oe rfl wn rfl rfl (SE rfl rfl rfl rfl .head hM (fun es2 ck2 hM2=>?_))
    refine pq<|W.seq<|W.region rfl<|qm rfl rfl rfl ?_
    refine KU (Wx rfl rfl rfl (by omega)) (congrArg (Value.int .u8) (akS k (by omega))) rfl wn rfl rfl ?_
    refine agY rfl ?_
    refine Ops.yG ?_
    refine pq<|W.seq<|W.region rfl ?_
    refine ag2 rfl ?_
    refine qm rfl rfl rfl ?_
    refine c0 (fun h' hE hL=>ah_ _ h' ps _ (2 ^ k) q (hf.ext hE) hok (ajd (by omega)) (by omega)) (fun v A' hv=>?_)
    obtain⟨w,S,rfl,-,-,hSS,hsb⟩:=hv
    refine Ops.sb (F':=[(ahd,.map es2 ck2),(yC,.cells #[.slice a ps.length cap,U8 (2 ^ k)] bG (0,0))]) (.left .refl (Sb.trans (.nil hSS) hsb).shut) ?_
    refine qm rfl rfl rfl<|oq (bD rfl rfl rfl) rfl wn rfl rfl<|oq (bD rfl rfl rfl) rfl wn rfl rfl<|agb rfl rfl rfl<|agb rfl rfl rfl<|pq<|W.seq<|W.region rfl<|qm rfl rfl rfl ?_
    refine pq ?_
    refine W.cond rfl (fun c51=>?_) (fun c51=>?_)
    ·refine W.region rfl<|qm rfl rfl rfl<|qm rfl rfl rfl ?_
     refine oe rfl wn rfl rfl (ajk rfl rfl rfl .head hM2 (fun es3 ck3 hM3=>?_))
     refine Ops.nil<|dI<|aA<|W.region rfl ?_
     refine ag1 rfl ?_
     refine qm rfl rfl rfl<|pq ?_
     have hw:noW ps q k=false:=by rw[noW,←Option.not_isSome,c51];rfl
     rw[ai4 hw]at hM3
     exact⟨rfl,(k+1,es3,ck3,2 ^ k),⟨hkl,hM3,ajd (by omega)⟩,by dsimp only;omega,⟨rfl,rfl,rfl,rfl,rfl,rfl,trivial⟩,.refl⟩
    ·refine W.skip<|dI<|aA<|W.region rfl ?_
     refine ag1 rfl ?_
     refine qm rfl rfl rfl<|pq ?_
     have hw:noW ps q k=true:=by rw[noW,←Option.not_isSome];simpa using c51
     rw[ajb hw]at hM2
     exact⟨rfl,(k+1,es2,ck2,2 ^ k),⟨hkl,hM2,ajd (by omega)⟩,by dsimp only;omega,⟨rfl,rfl,rfl,rfl,rfl,rfl,trivial⟩,.refl⟩
   ·obtain rfl:k=ps.length:=by omega
    refine W.exit<|bP<|bP<|gG<|aA<|W.seq<|W.region rfl<|agb rfl rfl rfl<|pq ?_
    refine W.seq<|W.seq<|W.region rfl<|qm rfl rfl rfl ?_
    refine agW (dM rfl rfl) rfl ?_
    refine qm rfl rfl rfl<|pq<|W.block ?_
    refine W.Js (fun(k:Nat) (v:Value) (S:ah)=>k≤ps.length∧Os dL fH v (zs ((List.range k).filter (noW ps q))) S) (fun k v S=>[(57,I k),(56,I ps.length),(14,v),(10,.map (some ahd)),(0,.slice a ps.length cap)]) (fun k v S=>S++[(ahd,.map es ck)]) (fun k _ _=>ps.length-k) 0 (.slice none 0 0) [] ⟨Nat.zero_le _,.nil .nil⟩ ⟨rfl,rfl,rfl,rfl,rfl,trivial⟩ (.cons (.skip rfl .refl)) ?_
    rintro k v S ⟨hk2,hS⟩
    refine W.seq<|W.region rfl ?_
    refine agW (fO rfl rfl rfl) rfl ?_
    refine pq<|W.seq ?_
    refine W.bC rfl (fun c58=>?_) (fun c58=>?_)
    ·have hkl:k<ps.length:=by omega
     have hlen:(zs ((List.range k).filter (noW ps q))).length≤4:=by rw[kT];exact Nat.le_trans (List.length_filter_le ..) (by simp;omega)
     refine W.skip<|aA<|W.seq<|W.block<|W.seq<|W.region rfl<|qm rfl rfl rfl<|agb rfl rfl rfl<|pq ?_
     refine W.seq<|W.region rfl<|qm rfl rfl rfl<|qm rfl rfl rfl ?_
     refine oe rfl wn rfl rfl (aaj rfl rfl rfl (.app .head) hM ?_)
     rw[ajc hkl]
     refine pq ?_
     refine W.cond rfl (fun c62=>?_) (fun c62=>?_)
     ·refine W.region rfl<|qm rfl rfl rfl<|qm rfl rfl rfl ?_
      refine Ops.NK (cs:= #[I k]) (fun akV=>?_) rfl
      refine oe rfl wn rfl rfl (iW (row:=fH) (l':=[(k:Int)]) rfl rfl rfl hS (.tail .head) (fun h2 _ hl=>Sl.mk (hl akV _ (.head _)) rfl (Part.all [I k])) (by simp;omega) (by decide) rfl (fun v' S' hS'=>?_))
      refine agb rfl rfl rfl<|Ops.nil<|dI<|aA<|W.region rfl ?_
      refine ag1 rfl ?_
      refine qm rfl rfl rfl<|pq ?_
      exact⟨rfl,k+1,v',S',⟨by omega,by rw[List.range_succ,List.filter_append,X3];simpa[zs,c62]using hS'⟩,by omega,⟨rfl,rfl,rfl,rfl,rfl,trivial⟩,.skip rfl .refl⟩
     ·refine W.skip<|dI<|aA<|W.region rfl ?_
      refine ag1 rfl ?_
      refine qm rfl rfl rfl<|pq ?_
      exact⟨rfl,k+1,v,S,⟨by omega,by rw[List.range_succ,List.filter_append,X3];simpa[zs,c62]using hS⟩,by omega,⟨rfl,rfl,rfl,rfl,rfl,trivial⟩,.refl⟩
    ·refine W.exit<|bP<|bP<|gG<|aA<|W.seq<|W.region rfl<|qm rfl rfl rfl<|agb rfl rfl rfl<|agb rfl rfl rfl ?_
     refine pq<|W.ret ?_
     obtain rfl:k=ps.length:=by omega
     refine mg (vs:=[_,_]) ?_
     rw[e]
     exact⟨_,S,rfl,hS,.right .refl (.cons rfl .nil)⟩
end Go.aS

/- Layers without one pan: the graph that has this pan shut. Conditions: none. -/
namespace Go.aS
theorem asF{ps:List Pn}(h4:ps.length≤4){S:Nat→Bool}{w:Nat}:∀{n q:Nat},apy ps w S n q=P7 (dO ps (2 ^ w)) S n q
 | 0,q=>rfl
 | n+1,q=>by
  have e:P7 (dO ps (2 ^ w)) S (n+1) q=(dO ps (2 ^ w) q).any fun po=>P7 (dO ps (2 ^ w)) S n po.2:=rfl
  rw[e,apy,dO,List.any_map,Bool.eq_iff_iff,List.any_eq_true,List.any_eq_true]
  constructor
  ·rintro⟨i,hi,hx⟩
   simp only[Bool.and_eq_true,decide_eq_true_eq]at hx
   refine⟨i,?_,?_⟩
   ·rw[Ak]
    exact⟨by have:=List.mem_range.1 hi;omega,hx.1.2,by rw[Nat.testBit_two_pow];exact decide_eq_false (by have:=hx.1.1;omega)⟩
   ·have:=hx.2;rw[asF h4]at this;exact this
  ·rintro⟨i,hi,hx⟩
   rw[Ak,Nat.testBit_two_pow]at hi
   have hil:i<ps.length:=by
    rcases Nat.lt_or_ge i ps.length with h | h
    ·exact h
    ·have:=hi.2.1;unfold P9 at this;rw[List.getElem?_eq_none h]at this;cases this
   refine⟨i,List.mem_range.2 hil,?_⟩
   simp only[Bool.and_eq_true]
   refine⟨⟨decide_eq_true (by have:=of_decide_eq_false hi.2.2;omega),hi.2.1⟩,?_⟩
   rw[asF h4];exact hx
end Go.aS

/- Pans that are forced, as the document has it. Conditions: none; over the given program. -/
namespace Go.aS
set_option maxRecDepth 100000
set_option maxHeartbeats 4000000
theorem asW{ps:List Pn}{c q:Nat}(hq:q<13):(shF ps c q).isSome=(List.range 14).any fun n=>P7 (dO ps c) (fun k:Nat=>dY ps k) n q:=by
 have h:=(agV (g:=dO ps c) afX (q:=q) F9 (T:=fun k=>dY ps k) (lo:=0) (by omega) hq).1
 have e1:afW (dO ps c) (fun k=>dY ps k) 0 q=shF ps c q:=by
  rw[afW,shF];refine congrArg (fun f=>List.find? f _) (funext fun w=>?_)
  simp
 rw[e1]at h
 have e2:(shF ps c q).isSome=(afV (dO ps c) (fun k=>dY ps k) 0 q).isSome:=by rw[h];cases shF ps c q <;>rfl
 rw[e2,afV,Option.isSome_map,Bool.eq_iff_iff,List.find?_isSome,List.any_eq_true]
 constructor
 ·rintro⟨n,h1,h2⟩;exact⟨n,(List.mem_filter.1 h1).1,h2⟩
 ·rintro⟨n,h1,h2⟩;exact⟨n,List.mem_filter.2 ⟨h1,by simp⟩,h2⟩
theorem as7{ps:List Pn}{q:Nat}(h4:ps.length≤4)(hq:q<13):((List.range 14).any fun n=>apy ps (-1) (apM ps (-1)) n q)=(shF ps 0 q).isSome:=by
 rw[asW hq,arX]
 refine congrArg (fun f=>List.any _ f) (funext fun n=>ap2 h4)
theorem as8{ps:List Pn}{q w:Nat}(h4:ps.length≤4)(hq:q<13):((List.range 14).any fun n=>apy ps (w:Int) (apM ps (-1)) n q)=(shF ps (2 ^ w) q).isSome:=by
 rw[asW hq,arX]
 refine congrArg (fun f=>List.any _ f) (funext fun n=>asF h4)
theorem asU(main:Side)(h:Hp)(ps:List Pn)(vp:Value)(q:Int)(hf:Sl h Pn.row vp ps):dV prog main ar5 #[vp,I q] h [] (fun v A=>∃w S,v= .tuple #[w,I (FoF ps q).2]∧Os dL fH w (zs (FoF ps q).1) S∧Sb S A):=by
 obtain⟨a,cap,rfl⟩:=hf.dA
 refine dV.aG asG rfl (by show 2≤39;decide) [(0,.slice a ps.length cap),(1,I q)] ⟨rfl,rfl,trivial⟩ ?_
 refine W.seq<|W.region rfl<|agb rfl rfl rfl<|agb rfl rfl rfl<|pq<|W.seq<|W.seq<|W.region rfl<|qm rfl rfl rfl ?_
 refine qm rfl rfl rfl ?_
 refine cp (fun h' hE hL=>ald _ h' ps _ q (hf.ext hE)) ?_
 refine agb rfl rfl rfl<|pq<|W.seq<|W.region rfl<|qm rfl rfl rfl ?_
 refine agW (nG rfl rfl rfl) rfl ?_
 refine pq ?_
 refine W.bC rfl (fun c13=>?_) (fun c13=>?_)
 ·refine W.seq<|W.region rfl<|qm rfl rfl rfl<|agb rfl rfl rfl<|agb rfl rfl rfl<|pq<|W.ret<|aY ?_
  refine mg (vs:=[_,_]) ?_
  rw[FoF,if_pos (by assumption)]
  exact⟨_,[],rfl,.nil .nil,.nil .nil⟩
 ·have h0:kU ps [q]=0:=by simpa using c13
  obtain⟨hok,hq0,hq12⟩:=Sj h0
  have h4:=hok.len
  obtain⟨q,rfl⟩:∃n:Nat,q=n:=⟨q.toNat,by omega⟩
  have Dn:q<13:=by omega
  have e:FoF ps q=match shF ps 0 q with | some _=>((List.range ps.length).filter (noW ps q),0) | none=>([],11):=by rw[FoF,if_neg (by simpa using h0),Int.toNat_natCast] <;>rfl
  refine W.skip<|aA<|W.seq<|W.seq<|W.region rfl<|qm rfl rfl rfl ?_
  refine agW (eH rfl rfl rfl) rfl ?_
  refine c0 (fun h' hE hL=>aq0 _ h' ps _ (-1) (-1) (hf.ext hE) hok) (fun v A' hv=>?_)
  obtain⟨vs,SL,Fo,hOl,hvl,hLA,hsb⟩:=hv
  refine Ops.sb (F':=(SL++Fo)++[]) (hsb.app .refl) ?_
  refine qm rfl rfl rfl ?_
  refine cp (fun h' hE hL=>asA _ h' ps (-1) (apM ps (-1)) vs _ q hvl (hOl.sl fun b' o hb=>hL b' o (by simp[hb])) (fun n hn=>by
   obtain⟨β,h1,h2⟩:=hLA.2 n hn
   exact⟨β,RS,(0,0),h1,hL _ _ (by simp[h2])⟩) Dn) ?_
  rw[as7 h4 Dn]
  refine agW (xU rfl rfl) rfl ?_
  refine pq ?_
  refine W.cond rfl (fun c20=>?_) (fun c20=>?_)
  ·have e2:shF ps 0 q=none:=by
    cases hh:shF ps 0 q with
    | none=>rfl
    | some u=>rw[hh]at c20;simp at c20
   rw[e2]at e
   refine W.seq<|W.region rfl<|agb rfl rfl rfl<|agb rfl rfl rfl<|pq<|W.ret<|aY ?_
   refine mg (vs:=[_,_]) ?_
   rw[e]
   exact⟨_,[],rfl,.nil .nil,.nil ((hOl.shut.app hLA.1).app .nil)⟩
  ·obtain⟨u,e2⟩:∃u,shF ps 0 q=some u:=by
    cases hh:shF ps 0 q with
    | none=>rw[hh]at c20;simp at c20
    | some u=>exact⟨u,rfl⟩
   rw[e2]at e
   refine W.skip<|aA<|W.seq<|W.region rfl<|agb rfl rfl rfl<|pq<|W.seq<|W.seq<|W.region rfl ?_
   refine agb rfl rfl rfl<|pq<|W.block ?_
   refine W.loop (σ:=Nat×Value×ah) (fun t=>t.1≤ps.length∧Os dL fH t.2.1 (zs ((List.range t.1).filter (noW ps q))) t.2.2) (fun t=>[(8,I t.1),(7,t.2.1),(0,.slice a ps.length cap),(1,I q)]) (fun t=>t.2.2) (fun t=>ps.length-t.1) (0,.slice none 0 0,[]) ⟨Nat.zero_le _,.nil .nil⟩ ⟨rfl,rfl,rfl,rfl,trivial⟩ (.nil ((hOl.shut.app hLA.1).app .nil)) ?_
   clear hOl hvl hLA hsb
   rintro⟨k,v,S⟩ ⟨hk,hO⟩
   dsimp only at*
   refine W.seq<|W.seq<|W.region rfl<|qm rfl rfl rfl<|qm rfl rfl rfl ?_
   refine agW (dM rfl rfl) rfl ?_
   refine agW (fO rfl rfl rfl) rfl ?_
   refine pq ?_
   refine W.bC rfl (fun c24=>?_) (fun c24=>?_)
   ·have hkl:k<ps.length:=by omega
    have hlen:(zs ((List.range k).filter (noW ps q))).length≤4:=by rw[kT];exact Nat.le_trans (List.length_filter_le ..) (by simp;omega)
    refine W.skip<|aA<|W.seq<|W.block<|W.seq<|W.region rfl<|qm rfl rfl rfl<|qm rfl rfl rfl ?_
    refine agW (eH rfl rfl rfl) rfl ?_
    refine c0 (fun h' hE hL=>aq0 _ h' ps _ (k:Int) (-1) (hf.ext hE) hok) (fun v2 A' hv=>?_)
    obtain⟨vs,SL,Fo,hOl,hvl,hLA,hsb⟩:=hv
    refine Ops.sb (F':=(SL++Fo)++S) (hsb.app .refl) ?_
    refine qm rfl rfl rfl ?_
    refine cp (fun h' hE hL=>asA _ h' ps (k:Int) (apM ps (-1)) vs _ q hvl (hOl.sl fun b' o hb=>hL b' o (by simp[hb])) (fun n hn=>by
     obtain⟨β,h1,h2⟩:=hLA.2 n hn
     exact⟨β,RS,(0,0),h1,hL _ _ (by simp[h2])⟩) Dn) ?_
    rw[as8 h4 Dn]
    refine agW (xU rfl rfl) rfl ?_
    refine pq ?_
    refine W.cond rfl (fun c33=>?_) (fun c33=>?_)
    ·refine W.region rfl<|qm rfl rfl rfl<|qm rfl rfl rfl ?_
     refine Ops.NK (cs:= #[I k]) (fun afr=>?_) rfl
     refine oe rfl wn rfl rfl (iW (row:=fH) (l':=[(k:Int)]) rfl rfl rfl hO (.tail (.app .all)) (fun h2 _ hl=>Sl.mk (hl afr _ (.head _)) rfl (Part.all [I k])) (by simp;omega) (by decide) rfl (fun v' S' Ie=>?_))
     refine agb rfl rfl rfl<|Ops.nil<|dI<|aA<|W.region rfl<|qm rfl rfl rfl ?_
     refine ag1 rfl ?_
     refine agb rfl rfl rfl<|pq ?_
     have hw:noW ps q k=true:=by rw[noW,←Option.not_isSome];exact c33
     exact⟨rfl,(k+1,v',S'),⟨hkl,by dsimp only;rw[List.range_succ,List.filter_append,X3];simpa[zs,hw]using Ie⟩,by dsimp only;omega,⟨rfl,rfl,rfl,rfl,trivial⟩,.skip rfl (.left .refl (hOl.shut.app hLA.1))⟩
    ·refine W.skip<|dI<|aA<|W.region rfl<|qm rfl rfl rfl ?_
     refine ag1 rfl ?_
     refine agb rfl rfl rfl<|pq ?_
     have hw:noW ps q k=false:=by rw[noW,←Option.not_isSome];simpa using c33
     exact⟨rfl,(k+1,v,S),⟨hkl,by dsimp only;rw[List.range_succ,List.filter_append,X3];simpa[zs,hw]using hO⟩,by dsimp only;omega,⟨rfl,rfl,rfl,rfl,trivial⟩,.left .refl (hOl.shut.app hLA.1)⟩
   ·obtain rfl:k=ps.length:=by omega
    refine W.exit<|bP<|bP<|gG<|aA<|W.seq<|W.region rfl<|qm rfl rfl rfl<|agb rfl rfl rfl<|agb rfl rfl rfl ?_
    refine pq<|W.ret ?_
    refine mg (vs:=[_,_]) ?_
    rw[e]
    exact⟨_,S,rfl,hO,.refl⟩
end Go.aS

/- Pans that are shut; where one comes without them. Conditions: none; no program in sight. -/
namespace Go.aS
set_option linter.unusedVariables false
def stp(g:yV)(q o:Nat):Prop:=∃p,(p,o)∈g q
theorem aix{g g':yV}(h:∀q o,stp g q o↔stp g' q o):∀{n q e:Nat},(∃v:List Nat,v.length=n∧qJ g q v e)→∃v:List Nat,v.length=n∧qJ g' q v e
 | 0,q,e,⟨v,h1,h2⟩=>by
  obtain rfl:=List.length_eq_zero_iff.1 h1
  exact⟨[],rfl,h2⟩
 | n+1,q,e,⟨v,h1,h2⟩=>by
  rcases v with _ | ⟨p,r⟩
  ·cases h1
  ·obtain⟨o,h3,h4⟩:=h2
   obtain⟨p',h5⟩:=(h q o).1 ⟨p,h3⟩
   obtain⟨r',h6,h7⟩:=aix h (n:=n) ⟨r,by simpa using h1,h4⟩
   exact⟨p'::r',by simp[h6],o,h5,h7⟩
theorem aiR{g g':yV}(h:∀q o,stp g q o↔stp g' q o){n q e:Nat}:(∃v:List Nat,v.length=n∧qJ g q v e)↔∃v:List Nat,v.length=n∧qJ g' q v e:=
 ⟨aix h,aix fun q o=>(h q o).symm⟩
theorem ajH{g g':yV}(h:∀q o,stp g q o↔stp g' q o){n q:Nat}:dD g n q=dD g' n q:=by
 rw[Bool.eq_iff_iff,JJ,JJ]
 constructor <;>rintro⟨v,e,h1,h2⟩
 ·obtain⟨v',h3,h4⟩:=(aiR h).1 ⟨v,h1,h2⟩;exact⟨v',e,h3,h4⟩
 ·obtain⟨v',h3,h4⟩:=(aiR h).2 ⟨v,h1,h2⟩;exact⟨v',e,h3,h4⟩

def ail(ps:List Pn)(l:List Int):Nat→List Pn
 | 0=>[]
 | i+1=>ail ps l i++(match ps[i]? with | some p=>if(i:Int)∈l then[]else[p] | none=>[])
def ah7(ps:List Pn)(l:List Int):List Pn:=ail ps l ps.length
theorem aiy{ps:List Pn}{l:List Int}:∀{i:Nat},(ail ps l i).length≤i
 | 0=>by simp[ail]
 | i+1=>by
  rw[ail,List.length_append]
  have:=aiy (ps:=ps) (l:=l) (i:=i)
  split
  ·split <;>simp <;>omega
  ·simp;omega
theorem aiU{ps:List Pn}{l:List Int}{p:Pn}:∀{n:Nat},p∈ail ps l n↔∃i:Nat,i<n∧ps[i]? =some p∧(i:Int)∉l
 | 0=>by simp[ail]
 | n+1=>by
  rw[ail,List.mem_append,aiU]
  constructor
  ·rintro(⟨i,h1,h2⟩ | h)
   ·exact⟨i,by omega,h2⟩
   ·split at h
    ·rename_i x hx
     split at h
     ·cases h
     ·rename_i hn
      rw[List.mem_singleton.1 h]
      exact⟨n,by omega,hx,hn⟩
    ·cases h
  ·rintro⟨i,h1,h2,h3⟩
   rcases Nat.lt_or_ge i n with h | h
   ·exact .inl ⟨i,h,h2,h3⟩
   ·obtain rfl:i=n:=by omega
    right;rw[h2];simp[h3]
theorem aiF{ps:List Pn}{l:List Int}{p:Pn}:p∈ah7 ps l↔∃i:Nat,ps[i]? =some p∧(i:Int)∉l:=by
 rw[ah7,aiU]
 constructor
 ·rintro⟨i,-,h⟩;exact⟨i,h⟩
 ·rintro⟨i,h1,h2⟩
  refine⟨i,?_,h1,h2⟩
  rcases Nat.lt_or_ge i ps.length with h | h
  ·exact h
  ·rw[List.getElem?_eq_none h]at h1;cases h1
theorem aiM{ps:List Pn}{l:List Int}:(ah7 ps l).length≤ps.length:=aiy
theorem ajn{ps:List Pn}{l:List Int}(h:nV ps=0):nV (ah7 ps l)=0:=by
 have h4:=(iP.yB h).len
 have hm:∀p∈ps,gW p=0:=by
  rw[nV,if_neg (by omega)]at h
  exact JO h
 rw[nV,if_neg (by have:=aiM (ps:=ps) (l:=l);omega)]
 have:∀qs:List Pn,(∀p∈qs,gW p=0)→lX qs=0:=by
  intro qs
  induction qs with
  | nil=>intro _;rfl
  | cons a qs ih=>
   intro ha
   rw[lX,if_pos (ha a (by simp))]
   exact ih fun p hp=>ha p (by simp[hp])
 refine this _ fun p hp=>?_
 obtain⟨i,h1,-⟩:=aiF.1 hp
 exact hm p (List.mem_of_getElem? h1)
theorem ai2{ps:List Pn}(h4:ps.length≤4){c q o:Nat}:stp (dO ps c) q o↔∃i x,ps[i]? =some x∧c.testBit i=false∧x.takes q=true∧o=(x.out q).toNat:=by
 unfold stp
 simp only[Um,Ak]
 constructor
 ·rintro⟨i,⟨h1,h2,h3⟩,rfl⟩
  unfold P9 at h2
  split at h2
  ·rename_i x hx
   exact⟨i,x,hx,h3,h2,by rw[gy,hx]⟩
  ·cases h2
 ·rintro⟨i,x,hx,h3,h2,rfl⟩
  refine⟨i,⟨?_,?_,h3⟩,by rw[gy,hx]⟩
  ·obtain⟨h,-⟩:=List.getElem?_eq_some_iff.1 hx;omega
  ·unfold P9;rw[hx];exact h2
theorem aiW{ps:List Pn}(h4:ps.length≤4){c:Nat}{l:List Int}(hc:∀i,i<4→(c.testBit i=true↔(i:Int)∈l))(q o:Nat):stp (dO (ah7 ps l) 0) q o↔stp (dO ps c) q o:=by
 rw[ai2 (by have:=aiM (ps:=ps) (l:=l);omega),ai2 h4]
 constructor
 ·rintro⟨j,x,hx,-,h1,h2⟩
  obtain⟨i,h3,h5⟩:=aiF.1 (List.mem_of_getElem? hx)
  have hi:i<4:=by obtain⟨h,-⟩:=List.getElem?_eq_some_iff.1 h3;omega
  exact⟨i,x,h3,by rw[←Bool.not_eq_true,hc i hi];exact h5,h1,h2⟩
 ·rintro⟨i,x,hx,h3,h1,h2⟩
  have hi:i<4:=by obtain⟨h,-⟩:=List.getElem?_eq_some_iff.1 hx;omega
  obtain⟨j,hj⟩:=List.getElem?_of_mem (aiF.2 ⟨i,hx,by rw[←hc i hi,h3];simp⟩)
  exact⟨j,x,hj,by simp,h1,h2⟩
end Go.aS

/- All ascending lists of so many numbers, as a program makes them. Conditions: none; no program in sight. -/
namespace Go.aS
set_option linter.unusedVariables false
set_option maxRecDepth 100000
def chS(n k:Nat):List Nat:=ae3.filter fun s=>decide (s<2 ^ n)&&decide ((JL s).length=k)
def alA(n:Nat):Bool:=decide (ae3.filter (fun s=>decide (s≤2 ^ n-1))=(List.range (n+1)).flatMap (chS n))
theorem ajP:((List.range 5).all alA)=true:=by kernel_rfl
theorem ajQ{n:Nat}(hn:n≤4):ae3.filter (fun s=>decide (s≤2 ^ n-1))=(List.range (n+1)).flatMap (chS n):=
 of_decide_eq_true (List.all_eq_true.1 ajP n (List.mem_range.2 (by omega)))
theorem ajI{n k:Nat}(h:k≤n):∃r,List.range (n+1)=List.range k++k::r:=by
 refine⟨(List.range (n-k)).map (k+1+ ·),?_⟩
 have:n+1=k+((n-k)+1):=by omega
 rw[this,List.range_add,List.range_succ_eq_map,List.map_cons,List.map_map]
 simp only[Nat.add_zero]
 congr 2
 refine List.map_congr_left fun x _=>?_
 simp only[Function.comp];omega
theorem ajJ{n k x s:Nat}{E:Nat→Bool}(hn:n≤4)(hk:k≤n)(hx:(chS n k)[x]? =some s)(hE:E s=true)(h1:∀j,j<k→∀u∈chS n j,E u=false)(h2:∀u∈(chS n k).take x,E u=false):
  ae3.find? (fun s=>decide (s≤2 ^ n-1)&&E s)=some s:=by
 have e:ae3.find? (fun s=>decide (s≤2 ^ n-1)&&E s)=(ae3.filter fun s=>decide (s≤2 ^ n-1)).find? E:=by
  rw[List.find?_filter]
  congr 1;funext a;rw[Bool.eq_iff_iff];simp
 obtain⟨r,hr⟩:=ajI hk
 obtain⟨hxl,hxs⟩:=List.getElem?_eq_some_iff.1 hx
 have hcs:chS n k=(chS n k).take x++s::(chS n k).drop (x+1):=by
  rw[←hxs,List.getElem_cons_drop,List.take_append_drop]
 rw[e,ajQ hn,hr,List.flatMap_append,List.flatMap_cons,List.find?_eq_some_iff_append]
 refine⟨hE,(List.range k).flatMap (chS n)++(chS n k).take x,(chS n k).drop (x+1)++r.flatMap (chS n),?_,?_⟩
 ·conv=>lhs;rw[hcs]
  simp[List.append_assoc]
 ·intro u hu
  rcases List.mem_append.1 hu with hu | hu
  ·obtain⟨j,hj,hu⟩:=List.mem_flatMap.1 hu
   rw[h1 j (List.mem_range.1 hj) u hu];rfl
  ·rw[h2 u hu];rfl
end Go.aS

/- All ascending lists of so many numbers. Conditions: none; over the given program. -/
namespace Go.aS
set_option maxRecDepth 100000
set_option maxHeartbeats 4000000
theorem UG.os{α:Type}{row:α→List Value}{w:Nat}[Rw row w]{E:TypeId}{vs:List Sv}{ls:List (List α)}{A:ah}(h:UG E row vs ls A):∀{k:Nat} {s:Sv} {l:List α},vs[k]? =some s→ls[k]? =some l→∃B,Os E row s.val l B∧∀p∈B,p∈A:=by
 induction h with
 | nil=>intro k s l hs;simp at hs
 | cons h1 _ ih=>
  intro k s l hs hl
  rcases k with _ | k
  ·simp at hs hl;subst hs hl
   exact⟨_,h1,fun p hp=>List.mem_append_left _ hp⟩
  ·simp at hs hl
   obtain⟨B,h2,h3⟩:=ih hs hl
   exact⟨B,h2,fun p hp=>List.mem_append_right _ (h3 p hp)⟩
end Go.aS
