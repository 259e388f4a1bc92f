/- Cones, stoves and heats out of a hat. Conditions: none; over the given program. (And 12 texts more.) -/
import Derived.Test.YtahkljmgmgacjaaDoorR08
import Derived.Test.YtahkljmgmgacjaaDoorR06
import Derived.Test.YtahkljmgmgacjaaDoorR07
set_option linter.unusedVariables false
set_option linter.unusedSimpArgs false
set_option linter.unusedSectionVars false

/- Cones, stoves and heats out of a hat. Conditions: none; over the given program. -/
namespace Go.aS
set_option maxRecDepth 100000
set_option maxHeartbeats 4000000
theorem aIf(main:Side)(h:Hp)(nums:List Int)(lv:Value)(b k:Nat)(s:Int)(hl:Sl h fH lv nums)(hk:k<3000000000):dV prog main aE6 #[.pointer (some ⟨b,0,none⟩)] h [(b,wF lv k s)] (fun v A=>∃c s',v=Cne.val c∧aHc c∧Sb [(b,wF lv (k+4) s')] A):=by
 refine dV.aG aGi rfl (by show 1≤13;decide) [(0,.pointer (some ⟨b,0,none⟩))] ⟨rfl,trivial⟩ ?_
 refine W.seq<|W.region rfl ?_
 refine Ops.new (fun yR=>?_)
 refine pq<|W.seq<|W.region rfl<|qm rfl rfl rfl ?_
 refine cg (A:=[(b,_)]) (.tail .head) (fun h' hE hL=>UD _ h' nums lv b k s 1 9 (hl.ext hE) (by omega) (by omega)) (fun v A' hv=>?_)
 obtain⟨r1,s1,rfl,hr1,hsb⟩:=hv
 refine Ops.sb (.cons (hsb.app .refl)) ?_
 refine qm rfl rfl rfl ?_
 refine cg (A:=[(b,_)]) (.tail .head) (fun h' hE hL=>UD _ h' nums lv b (k+1) s1 1 5 (hl.ext hE) (by omega) (by omega)) (fun v A' hv=>?_)
 obtain⟨r2,s2,rfl,hr2,hsb⟩:=hv
 refine Ops.sb (.cons (hsb.app .refl)) ?_
 refine qm rfl rfl rfl ?_
 refine Ops.NK (cs:= #[I 0,I 1,I 1,I 2,I 3]) (fun yD=>?_) rfl
 refine cg (A:=[(b,_)]) (.tail (.tail .head)) (fun h' hE hL=>YM _ h' nums lv b (k+2) s2 [0,1,1,2,3] _ (hl.ext hE) (Sl.mk (hL yD _ (.head _)) rfl (pa _ _)) (by omega) (by simp) (by simp)) (fun v A' hv=>?_)
 obtain⟨r3,s3,rfl,hr3,hsb⟩:=hv
 refine Ops.sb (F':=[(yR,_),(b,_)]) (.skip rfl (.cons (hsb.app .refl))) ?_
 refine qm rfl rfl rfl ?_
 refine cg (A:=[(b,_)]) (.tail .head) (fun h' hE hL=>UD _ h' nums lv b (k+3) s3 3 8 (hl.ext hE) (by omega) (by omega)) (fun v A' hv=>?_)
 obtain⟨r4,s4,rfl,hr4,hsb⟩:=hv
 refine Ops.sb (.cons (hsb.app .refl)) ?_
 refine agW (eH (cs:= #[I r1,I r2,I r3,I r4]) rfl rfl rfl) rfl ?_
 first | refine Ops.jP ?_ | refine Ops.nY ?_
 refine pq<|W.ret ?_
 refine QJ (hv:=D_ zJ) ⟨⟨r1,r2,r3,r4⟩,s4,rfl,?_,.skip rfl .refl⟩
 simp at hr3
 refine⟨?_,?_,?_,?_,?_,?_,?_,?_⟩ <;>simp only <;>omega
def aIG(s:Shf):Prop:=0≤s.li∧s.li≤3∧1≤s.ro∧s.ro≤2
theorem aHB(main:Side)(h:Hp)(nums:List Int)(lv:Value)(b:Nat)(s:Int)(hl:Sl h fH lv nums):dV prog main aEF #[.pointer (some ⟨b,0,none⟩),I 0,I 3] h [(b,wF lv 0 s)]
  (fun v A=>∃vs sh S da no ri to k s',v= .agg #[vs,.slice none 0 0,I da,I no,I ri,I to]∧Os aDU Shf.row vs sh S∧(1≤sh.length∧sh.length≤3∧∀x∈sh,aIG x)∧(1≤da∧da≤3∧0≤no∧no≤2∧0≤ri∧ri≤3∧1≤to∧to≤4)∧k≤100∧Sb ((b,wF lv k s')::S) A):=by
 refine dV.aG aFO rfl (by show 3≤52;decide) [(0,.pointer (some ⟨b,0,none⟩)),(1,I 0),(2,I 3)] ⟨rfl,rfl,rfl,trivial⟩ ?_
 refine W.seq<|W.region rfl ?_
 refine Ops.new (fun yC=>?_)
 refine pq<|W.seq<|W.region rfl<|qm rfl rfl rfl<|qm rfl rfl rfl ?_
 refine cg (A:=[(b,_)]) (.tail .head) (fun h' hE hL=>UD _ h' nums lv b 0 s 1 3 (hl.ext hE) (by omega) (by omega)) (fun v A' hv=>?_)
 obtain⟨da,s1,rfl,hda,hsb⟩:=hv
 refine Ops.sb (.cons (hsb.app .refl)) ?_
 refine qm rfl rfl rfl ?_
 refine cg (A:=[(b,_)]) (.tail .head) (fun h' hE hL=>UC _ h' nums lv b 1 s1 2 (hl.ext hE) (by omega) (by omega)) (fun v A' hv=>?_)
 obtain⟨no,s2,rfl,hno,hsb⟩:=hv
 refine Ops.sb (.cons (hsb.app .refl)) ?_
 refine qm rfl rfl rfl ?_
 refine cg (A:=[(b,_)]) (.tail .head) (fun h' hE hL=>UD _ h' nums lv b 2 s2 0 3 (hl.ext hE) (by omega) (by omega)) (fun v A' hv=>?_)
 obtain⟨ri,s3,rfl,hri,hsb⟩:=hv
 refine Ops.sb (.cons (hsb.app .refl)) ?_
 refine qm rfl rfl rfl ?_
 refine cg (A:=[(b,_)]) (.tail .head) (fun h' hE hL=>UD _ h' nums lv b 3 s3 1 4 (hl.ext hE) (by omega) (by omega)) (fun v A' hv=>?_)
 obtain⟨to,s4,rfl,hto,hsb⟩:=hv
 refine Ops.sb (.cons (hsb.app .refl)) ?_
 refine agW (eH (cs:= #[.slice none 0 0,.slice none 0 0,I da,I no,I ri,I to]) rfl rfl (by kernel_rfl)) rfl ?_
 refine Ops.new (fun Vo=>?_)
 first | refine Ops.jP ?_ | refine Ops.nY ?_
 refine pq<|W.seq<|W.seq<|W.region rfl<|qm rfl rfl rfl ?_
 refine cg (A:=[(b,_)]) (.tail (.tail .head)) (fun h' hE hL=>UD _ h' nums lv b 4 s4 1 3 (hl.ext hE) (by omega) (by omega)) (fun v A' hv=>?_)
 obtain⟨r,s5,rfl,hr,hsb⟩:=hv
 refine Ops.sb (.cons (.cons (hsb.app .refl))) ?_
 obtain⟨m,rfl⟩:∃m:Nat,r=m:=⟨r.toNat,by omega⟩
 refine agb rfl rfl rfl<|pq<|W.block ?_
 refine W.Js (σ:=Nat) (τ:=List Shf×Value×ah) (υ:=Nat×Int) (fun i t u=>i≤m∧Os aDU Shf.row t.2.1 t.1 t.2.2∧(∀x∈t.1,aIG x)∧t.1.length+i=m∧u.1+2*i=5+2*m) (fun i _ _=>[(8,I i),(7,.pointer (some ⟨Vo,0,none⟩)),(6,.pointer (some ⟨yC,0,none⟩)),(0,.pointer (some ⟨b,0,none⟩)),(1,I 0)])
  (fun _ t u=>(Vo,.cells #[t.2.1,.slice none 0 0,I da,I no,I ri,I to] awO (0,0))::(yC,.cells #[.slice none 0 0,.slice none 0 0,I 0,I 0,I 0,I 0] awO (0,0))::(b,wF lv u.1 u.2)::t.2.2) (fun i _ _=>i) m ([],.slice none 0 0,[]) (5,s5) ⟨Nat.le_refl _,.nil .nil,(fun x hx=>by cases hx),by simp,by simp only⟩ ⟨rfl,rfl,rfl,rfl,rfl,trivial⟩ (.cons (.cons (.cons .refl))) ?_
 rintro i ⟨sh,vs,S⟩ ⟨k1,s6⟩ ⟨hi,hO,hck,hlen,hk1⟩
 simp only at hO hck hlen hk1⊢
 refine W.seq<|W.seq<|W.region rfl<|qm rfl rfl rfl ?_
 refine agW (rC rfl rfl rfl) rfl ?_
 refine pq ?_
 refine W.bC rfl (fun c23=>?_) (fun c23=>?_)
 ·obtain⟨va,vc,rfl⟩:=hO.dA
  refine W.skip<|aA<|W.seq<|W.block ?_
  refine W.mono (Q:=(fun e ρ' ds' F'=>e= .normal∧ds'=[]∧Sub [(8,I i),(7,.pointer (some ⟨Vo,0,none⟩)),(6,.pointer (some ⟨yC,0,none⟩)),(0,.pointer (some ⟨b,0,none⟩)),(1,I 0)] ρ'∧∃x s8 v' S',Os aDU Shf.row v' (sh++[x]) S'∧aIG x∧Sb ((Vo,.cells #[v',.slice none 0 0,I da,I no,I ri,I to] awO (0,0))::(yC,.cells #[.slice none 0 0,.slice none 0 0,I 0,I 0,I 0,I 0] awO (0,0))::(b,wF lv (k1+2) s8)::S') F')) ?_ ?_
  ·refine W.aJJ (n:=12) rfl ?_
   refine xq 0 (ay rfl rfl) rfl ?_
   refine xq 1 (iQ rfl rfl) rfl ?_
   refine xq 2 (aN rfl rfl) rfl ?_
   refine xq 4 (aN rfl rfl) rfl ?_
   refine Any.WB (i:=3) (j:=5) (by kernel_rfl) (aU rfl) (aU rfl) an an rfl rfl rfl rfl ?_ ?_
   ·refine(QZ (A:=[(b,_)]) (args:=[_,_]) rfl rfl (.tail (.tail .head)) (fun h' hE hL=>UC _ h' nums lv b k1 s6 3 (hl.ext hE) (by omega) (by omega)) (fun v A' hv=>?_))
    refine⟨.inr (Keeps.one (by repeat(first | exact List.Mem.head _ | apply List.Mem.tail)) Keeps.nil),?_⟩
    obtain⟨li,s7,rfl,QL,hsb⟩:=hv
    refine Any.sb (.cons (.cons (hsb.app .refl))) ?_
    refine abl (i:=5) (cs:= #[I 1,I 1,I 2]) (fun aCN=>?_) rfl
    refine ae (i:=6) rfl an rfl rfl (QZ (A:=[(b,_)]) (args:=[_,_]) rfl rfl (.tail (.tail (.tail .head))) (fun h' hE hL=>YM _ h' nums lv b (k1+1) s7 [1,1,2] _ (hl.ext hE) (Sl.mk (hL aCN _ (.head _)) rfl (pa _ _)) (by omega) (by simp) (by simp)) (fun v A' hv=>?_))
    refine⟨.inr (Keeps.one (by repeat(first | exact List.Mem.head _ | apply List.Mem.tail)) Keeps.nil),?_⟩
    obtain⟨ro,s8,rfl,hro,hsb⟩:=hv
    refine Any.sb (.skip rfl (.cons (.cons (hsb.app .refl)))) ?_
    refine xq 7 (eH (cs:= #[I li,I ro]) rfl rfl rfl) rfl ?_
    refine abl (i:=8) (cs:= #[I li,I ro]) (fun ahd=>?_) rfl
    refine ae (i:=9) rfl an rfl rfl (iW (row:=Shf.row) (l':=[(⟨li,ro⟩:Shf)]) rfl rfl rfl hO (.tail (.tail (.tail (.tail .all)))) (fun h2 _ hl=>Sl.mk (hl ahd _ (.head _)) rfl (Part.all (flat Shf.row [(⟨li,ro⟩:Shf)]))) (by simp;omega) (by decide) rfl (fun v' S' Ie=>?_))
    refine⟨.inr (Keeps.one (by repeat(first | exact List.Mem.head _ | apply List.Mem.tail)) Keeps.nil),?_⟩
    obtain⟨asl,csl,rfl⟩:=Ie.dA
    refine xq 10 (ay rfl rfl) rfl ?_
    refine ae (i:=11) rfl an rfl rfl (eS rfl rfl rfl ?_)
    refine⟨.inl (by kernel_rfl),?_⟩
    refine az ?_
    refine⟨rfl,rfl,⟨rfl,rfl,rfl,rfl,rfl,trivial⟩,⟨li,ro⟩,s8,_,S',Ie,?_,.skip rfl .refl⟩
    simp at hro
    refine⟨?_,?_,?_,?_⟩ <;>simp only <;>omega
   ·refine(DN (cs:= #[I 1,I 1,I 2]) rfl rfl (by decide) (by decide) (by kernel_rfl) fun aCN _ _=>⟨.inr (Keeps.one (by repeat(first | exact List.Mem.head _ | apply List.Mem.tail)) Keeps.nil),?_⟩)
    refine ae (i:=3) rfl an rfl rfl (QZ (A:=[(b,_)]) (args:=[_,_]) rfl rfl (.tail (.tail (.tail .head))) (fun h' hE hL=>UC _ h' nums lv b k1 s6 3 (hl.ext hE) (by omega) (by omega)) (fun v A' hv=>?_))
    refine⟨.inr (Keeps.one (by repeat(first | exact List.Mem.head _ | apply List.Mem.tail)) Keeps.nil),?_⟩
    obtain⟨li,s7,rfl,QL,hsb⟩:=hv
    refine Any.sb (.cons (.cons (.cons (hsb.app .refl)))) ?_
    refine ae (i:=6) rfl an rfl rfl (QZ (A:=[(b,_)]) (args:=[_,_]) rfl rfl (.tail (.tail (.tail .head))) (fun h' hE hL=>YM _ h' nums lv b (k1+1) s7 [1,1,2] _ (hl.ext hE) (Sl.mk (hL aCN _ (.head _)) rfl (pa _ _)) (by omega) (by simp) (by simp)) (fun v A' hv=>?_))
    refine⟨.inr (Keeps.one (by repeat(first | exact List.Mem.head _ | apply List.Mem.tail)) Keeps.nil),?_⟩
    obtain⟨ro,s8,rfl,hro,hsb⟩:=hv
    refine Any.sb (.skip rfl (.cons (.cons (hsb.app .refl)))) ?_
    refine xq 7 (eH (cs:= #[I li,I ro]) rfl rfl rfl) rfl ?_
    refine abl (i:=8) (cs:= #[I li,I ro]) (fun ahd=>?_) rfl
    refine ae (i:=9) rfl an rfl rfl (iW (row:=Shf.row) (l':=[(⟨li,ro⟩:Shf)]) rfl rfl rfl hO (.tail (.tail (.tail (.tail .all)))) (fun h2 _ hl=>Sl.mk (hl ahd _ (.head _)) rfl (Part.all (flat Shf.row [(⟨li,ro⟩:Shf)]))) (by simp;omega) (by decide) rfl (fun v' S' Ie=>?_))
    refine⟨.inr (Keeps.one (by repeat(first | exact List.Mem.head _ | apply List.Mem.tail)) Keeps.nil),?_⟩
    obtain⟨asl,csl,rfl⟩:=Ie.dA
    refine xq 10 (ay rfl rfl) rfl ?_
    refine ae (i:=11) rfl an rfl rfl (eS rfl rfl rfl ?_)
    refine⟨.inl (by kernel_rfl),?_⟩
    refine az ?_
    refine⟨rfl,rfl,⟨rfl,rfl,rfl,rfl,rfl,trivial⟩,⟨li,ro⟩,s8,_,S',Ie,?_,.skip rfl .refl⟩
    simp at hro
    refine⟨?_,?_,?_,?_⟩ <;>simp only <;>omega
  rintro e ρ' ds' F' ⟨rfl,rfl,hE0,x,s8,v',S',Ie,hx,hsb⟩
  refine dI<|aA ?_
  refine W.env hE0 (W.sb hsb ?_)
  refine W.region rfl<|qm rfl rfl rfl ?_
  refine ag5 rfl ?_
  refine agb rfl rfl rfl<|pq ?_
  refine⟨rfl,i-1,(sh++[x],v',S'),(k1+2,s8),⟨by omega,Ie,fun y hy=>?_,by simp;omega,by simp only;omega⟩,by omega,⟨lk rfl (show I _=I _ by congr 1;omega),rfl,rfl,rfl,rfl,trivial⟩,.refl⟩
  rcases List.mem_append.1 hy with hy | hy
  ·exact hck y hy
  ·obtain rfl:y=x:=by simpa using hy
   exact hx
 ·have hi0:i=0:=by omega
  subst hi0
  obtain⟨va,vc,rfl⟩:=hO.dA
  refine W.exit<|bP<|bP<|gG<|aA<|W.seq<|W.seq<|W.region rfl<|qm rfl rfl rfl<|qm rfl rfl rfl ?_
  refine cg (A:=[(b,_)]) (.tail (.tail .head)) (fun h' hE hL=>UC _ h' nums lv b k1 s6 0 (hl.ext hE) (by omega) (by omega)) (fun v A' hv=>?_)
  obtain⟨r9,s9,rfl,hr9,hsb⟩:=hv
  obtain rfl:r9=0:=by omega
  refine Ops.sb (.cons (.cons (hsb.app .refl))) ?_
  refine agb rfl rfl rfl<|pq<|W.block ?_
  refine W.loop (σ:=Unit) (fun _=>True) (fun _=>[(9,I 0),(7,.pointer (some ⟨Vo,0,none⟩)),(6,.pointer (some ⟨yC,0,none⟩))]) (fun _=>(Vo,.cells #[.slice va sh.length vc,.slice none 0 0,I da,I no,I ri,I to] awO (0,0))::(yC,.cells #[.slice none 0 0,.slice none 0 0,I 0,I 0,I 0,I 0] awO (0,0))::(b,wF lv (k1+1) s9)::S) (fun _=>0) () trivial ⟨rfl,rfl,rfl,trivial⟩ .refl ?_
  rintro⟨⟩ -
  refine W.seq<|W.seq<|W.region rfl<|qm rfl rfl rfl ?_
  refine agW (rC rfl rfl rfl) rfl ?_
  refine pq ?_
  refine W.bC rfl (fun c41=>?_) (fun c41=>?_)
  ·exact absurd c41 (by omega)
  ·refine W.exit<|bP<|bP<|gG<|aA<|W.seq<|W.region rfl ?_
   first | refine ag2 rfl ?_ | refine agW (ady rfl rfl) rfl ?_
   first | refine Ops.jP ?_ | refine Ops.nY ?_
   refine pq<|W.ret ?_
   refine QJ (hv:=D_ zJ) ⟨_,sh,S,da,no,ri,to,k1+1,s9,rfl,hO,⟨by omega,by omega,hck⟩,⟨by omega,by omega,by omega,by omega,by omega,by omega,by omega,by omega⟩,by omega,.skip rfl (.skip rfl .refl)⟩
end Go.aS

/- Three effects, in an open order. Conditions: none; over any program. -/
namespace Go.aS
section
variable{x:Cx}{Q:Post}{ρ:Env}{ds:List Deferred}{F:ah}{ops:Array Oper}{L:ah}
theorem Any.aKK{fuel listed i j k:Nat}{o o' o'':Oper}(hr:qx ops listed=[i,j,k])(hi:ops[i]? =some o)(hj:ops[j]? =some o')(hk:ops[k]? =some o'')(hw:dR ops (look ρ) o true)(hw':dR ops (look ρ) o' true)(hw'':dR ops (look ρ) o'' true)(hd:d_ o.dst x.n=true)(hd':d_ o'.dst x.n=true)(hd'':d_ o''.dst x.n=true)(hn:cu o.op=true)(hn':cu o'.op=true)(aKL:cu o''.op=true)
  (H:Ef x ρ o F fun v F'=>(lastT ops i=true∨Keeps L F')∧Any x ops L fuel (listed||| 2 ^ i) Q (put ρ o.dst v) ds F')
  (H':Ef x ρ o' F fun v F'=>(lastT ops j=true∨Keeps L F')∧Any x ops L fuel (listed||| 2 ^ j) Q (put ρ o'.dst v) ds F')
  (H'':Ef x ρ o'' F fun v F'=>(lastT ops k=true∨Keeps L F')∧Any x ops L fuel (listed||| 2 ^ k) Q (put ρ o''.dst v) ds F'):Any x ops L (fuel+1) listed Q ρ ds F:=by
 refine⟨(fun h=>by rw[h]at hr;cases hr),fun m hm=>?_⟩
 have:=o8.2 hm
 rw[hr]at this
 rcases(by simpa using this:m=i∨m=j∨m=k)with rfl | rfl | rfl
 ·exact(QO.op hi hw hd (gI hn) fun e he=>(H e he).mono fun v F' ⟨Lp,p,h1,h2⟩=>⟨h1.imp id (Keeps.perm p),Any.perm p h2⟩)
 ·exact(QO.op hj hw' hd' (gI hn') fun e he=>(H' e he).mono fun v F' ⟨Lp,p,h1,h2⟩=>⟨h1.imp id (Keeps.perm p),Any.perm p h2⟩)
 ·exact(QO.op hk hw'' hd'' (gI aKL) fun e he=>(H'' e he).mono fun v F' ⟨Lp,p,h1,h2⟩=>⟨h1.imp id (Keeps.perm p),Any.perm p h2⟩)
end
end Go.aS

/- Operations that come up in any order and only add to what is owned. Conditions: none; over any program. -/
namespace Go.aS
abbrev Spc:=Nat×Nat×(Value→ah→Prop)
def waits(ops:Array Oper):Nat→Nat→Nat→Bool
 | 0,_,_=>false
 | n+1,k,b=>match ops[k]? with | some o=>o.after.any fun e=>iG e&&(Nat.beq e.on b|| waits ops n e.on b) | none=>false
structure Y4(ops:Array Oper)(listed:Nat)(B:List Nat):Prop where
 cl:Closed ops listed
 low:∀k o,ops[k]? =some o→∀e∈o.after,iG e=true→e.on<k
 or:∀k,k<ops.size→listed.testBit k=false→k∈B∨∀b∈B,waits ops 6 k b=true
 un:∀b∈B,b<ops.size∧listed.testBit b=false
 nd:B.Nodup

theorem Y4.some{ops:Array Oper}{listed:Nat}{B:List Nat}(h:Y4 ops listed B){b:Nat}(hb:b∈B):qx ops listed≠[]:=by
 have key:∀(n k:Nat),k<n→k<ops.size→listed.testBit k=false→∃i,Fq ops listed i=true:=by
  intro n
  induction n with
  | zero=>intro k hk;omega
  | succ n ih=>
   intro k hk hlt hl
   by_cases hr:Fq ops listed k=true
   ·exact⟨k,hr⟩
   ·simp only[Fq,Array.getElem?_eq_getElem hlt,hl,Bool.not_false,Bool.true_and,Array.all_eq_true_iff_forall_mem,Bool.or_eq_true,Bool.not_eq_true']at hr
    have:∃e∈(ops[k]).after,iG e=true∧listed.testBit e.on=false:=by
     refine Classical.byContradiction fun hn=>hr fun e he=>?_
     cases hbe:iG e with
     | false=>exact .inl rfl
     | true=>
      cases ht:listed.testBit e.on with
      | true=>exact .inr rfl
      | false=>exact absurd ⟨e,he,hbe,ht⟩ hn
    obtain⟨e,he,h1,h2⟩:=this
    have:=h.low k _ (Array.getElem?_eq_getElem hlt) e he h1
    exact ih e.on (by omega) (by omega) h2
 obtain⟨i,hi⟩:=key (b+1) b (by omega) (h.un b hb).1 (h.un b hb).2
 intro e
 have:=o8.2 hi
 rw[e]at this
 cases this

theorem Y4.step{ops:Array Oper}{listed j:Nat}{B1 B2:List Nat}(h:Y4 ops listed (B1++j::B2))(hj:Fq ops listed j=true):Y4 ops (listed||| 2 ^ j) (B1++B2):=by
 have hnd:j∉B1++B2:=by
  have:=(List.perm_middle (a:=j) (l₁:=B1) (l₂:=B2)).nodup_iff.1 h.nd
  exact(List.nodup_cons.1 this).1
 refine⟨h.cl.step hj,h.low,fun k hk hl=>?_,fun b hb=>?_,?_⟩
 ·rw[testBit_or,Bool.or_eq_false_iff]at hl
  have hne:j≠k:=by simpa using hl.2
  rcases h.or k hk hl.1 with h' | h'
  ·left
   rcases List.mem_append.1 h' with h' | h'
   ·exact List.mem_append_left _ h'
   ·rcases List.mem_cons.1 h' with h' | h'
    ·exact absurd h'.symm hne
    ·exact List.mem_append_right _ h'
  ·right
   intro b hb
   refine h' b ?_
   rcases List.mem_append.1 hb with hb | hb
   ·exact List.mem_append_left _ hb
   ·exact List.mem_append_right _ (List.mem_cons_of_mem _ hb)
 ·have hb':b∈B1++j::B2:=by
   rcases List.mem_append.1 hb with hb | hb
   ·exact List.mem_append_left _ hb
   ·exact List.mem_append_right _ (List.mem_cons_of_mem _ hb)
  refine⟨(h.un b hb').1,?_⟩
  rw[testBit_or,(h.un b hb').2,Bool.false_or,decide_eq_false_iff_not]
  rintro rfl
  exact hnd hb
 ·have:=(List.perm_middle (a:=j) (l₁:=B1) (l₂:=B2)).nodup_iff.1 h.nd
  exact(List.nodup_cons.1 this).2

def Adds(x:Cx)(ops:Array Oper)(ε:Ev)(s:Spc):Prop:=
 ∃o,ops[s.1]? =some o∧o.dst=some s.2.1∧d_ o.dst x.n=true∧(∀c,o.op≠ .defer c)∧o.guard=none∧∀e,Cons ε e→∀F,Dx x o e F fun v F'=>∃A Lp,Lp.Perm F'∧s.2.2 v A∧Lp=A++F

theorem Cons.back{ε:Ev}{d:Nat}{v:Value}{e:Operand→Value}(h:Cons (upd ε (some d) v) e)(hd:ε d=none):Cons ε e:=fun y u hy=>h y u (by
 cases y with
 | tmp t=>
  simp only[UK,upd]at hy⊢
  cases hb:Nat.beq t d with
  | true=>rw[Nat.eq_of_beq_eq_true hb,hd]at hy;cases hy
  | false=>exact hy
 | _=>exact hy)

section rules
variable{x:Cx}{Q:Post}{ρ:Env}{ds:List Deferred}{F:ah}{ops:Array Oper}{L:ah}{fuel listed:Nat}
theorem Adds.of{i d:Nat}{P:Value→ah→Prop}{op:Op}{ty:TypeId}{pos:String}{bK:Array Edge}(ho:cO ops.toList i=some ⟨some d,op,ty,pos,bK,none⟩)(hd:Nat.blt d x.n=true)(hn:cu op=true)(H:∀F,Ef x ρ ⟨some d,op,ty,pos,bK,none⟩ F fun v F'=>∃A,P v A∧F'=A++F):Adds x ops (look ρ) (i,d,P):=
 ⟨_,aU ho,rfl,hd,gI hn,rfl,fun e he F=>(H F e fun y v hy=>he y v (by rw[DC];exact hy)).mono fun v F' ⟨Lp,p,A,hv,e⟩=>⟨A,Lp,p,hv,e⟩⟩
theorem Adds.call{i d f:Nat}{P:Value→ah→Prop}{args:List Operand}{ts:Array TypeId}{vs:List Value}{ty:TypeId}{pos:String}{bK:Array Edge}(H:∀h',Ext x.h h'→dV x.P x.main f vs.toArray h' [] P)(ho:cO ops.toList i=some ⟨some d,.call ⟨.value (.func f),args.toArray,ts⟩,ty,pos,bK,none⟩:=by rfl)[FB x.P f](hv:evs ρ args=some vs:=by rfl)(hd:Nat.blt d x.n=true:=by rfl):Adds x ops (look ρ) (i,d,P):=
 .of ho hd rfl fun F=>lQ rfl hv (fun h' hE _=>H h' hE) fun v A' hv=>⟨A',hv,rfl⟩
def axt(t:TypeId)(zc:Array Value)(v:Value)(A:ah):Prop:=∃β,v= .pointer (some ⟨β,0,none⟩)∧A=[(β,.cells zc t (0,0))]
theorem Adds.new{i d t s b:Nat}{z:Value}{zc:Array Value}{ty:TypeId}{pos:String}{bK:Array Edge}(ho:cO ops.toList i=some ⟨some d,.alloc t,ty,pos,bK,none⟩:=by rfl)[TI x.P t s b z zc](hd:Nat.blt d x.n=true:=by rfl):Adds x ops (look ρ) (i,d,axt t zc):=
 .of ho hd rfl fun F=>wJ rfl fun β _ _=>⟨_,⟨β,rfl,rfl⟩,rfl⟩
end rules
end Go.aS
namespace Go.aS
section
variable{α:Type}{row:α→List Value}{w:Nat}[rw':Rw row w]
section
variable{x:Cx}{ρ:Env}{F:ah}{o:Oper}{R:Value→ah→Prop}
end
end
section
variable{x:Cx}{S:ah→Prop}{ρ:Env}{o:Oper}
end
end Go.aS
namespace Go.aS
section
variable{x:Cx}{Q:Post}{ρ:Env}{ds:List Deferred}{ops:Array Oper}{G:ah}{y₁ y₂ y₃ y₄ agp agq:Nat×Obj}{id n:Nat}
end
theorem agQ{α:Type}{l l':List α}(h:∀[DecidableEq α] (a:α),l.count a=l'.count a):l.Perm l':=by
 classical
 exact List.perm_iff_count.2 fun a=>h a
end Go.aS
namespace Go.aS
theorem Os.open{α:Type}{row:α→List Value}{w:Nat}[Rw row w]{E:TypeId}{a:Option Addr}{n cap:Nat}{l:List α}{A:ah}(h:Os E row (.slice a n cap) l A)(hne:0<l.length):∃β c J,a=some ⟨β,0,none⟩∧A=(β,.cells c E (0,0))::J∧n=l.length∧c.size=cap*w∧l.length≤cap∧Part c 0 (flat row l)∧Shut J:=by
 rcases h with⟨rfl,_,_⟩ | ⟨β,c,cp,J,hv,rfl,h1,h2,h3,h4⟩
 ·simp at hne
 ·injection hv with e1 e2 e3
  subst e1 e2 e3
  exact⟨β,c,J,rfl,rfl,rfl,h1,h2,h3,h4⟩
end Go.aS

/- A plant of one floor and one strike. Conditions: none; over the given program. -/
namespace Go.aS
set_option maxRecDepth 100000
set_option maxHeartbeats 4000000
theorem aDC(main:Side)(h:Hp)(f:Fl)(s:St):dV prog main aCo #[Fl.val f,.agg #[I s.day,I s.co,I s.wa]] h [] (fun v A=>∃b7 b9 b14,v= .tuple #[.agg #[.slice (some ⟨b7,0,none⟩) 1 1,.slice (some ⟨b9,0,none⟩) 1 1],.slice (some ⟨b14,0,none⟩) 1 1]∧Sb [(b7,.cells #[I f.pl,I f.lo,I f.hi,I f.co] Jq (0,0)),(b9,.cells #[I s.day,I s.co,I s.wa] ql (0,0)),(b14,.cells #[I 0,I s.day] ay1 (0,0))] A):=by
 refine dV.aG aDD rfl (by show 2≤15;decide) [(0,Fl.val f),(1,.agg #[I s.day,I s.co,I s.wa])] ⟨rfl,rfl,trivial⟩ ?_
 refine W.seq<|W.region rfl ?_
 refine Ops.box (fun yR=>?_)
 refine Ops.box (fun uU=>?_)
 refine Ops.new (fun wC=>?_)
 refine agb rfl rfl rfl<|pq<|W.seq ?_
 refine W.mono (Q:=(fun e ρ' ds' F'=>e= .normal∧ds'=[]∧∃Vo Uw aht,Sub [(4,.pointer (some ⟨wC,0,none⟩)),(5,.slice (some ⟨aht,0,none⟩) 1 1)] ρ'∧Sb [(wC,.cells #[.slice (some ⟨Vo,0,none⟩) 1 1,.slice (some ⟨Uw,0,none⟩) 1 1] Wy (0,0)),(Vo,.cells #[I f.pl,I f.lo,I f.hi,I f.co] Jq (0,0)),(Uw,.cells #[I s.day,I s.co,I s.wa] ql (0,0)),(aht,.cells #[I 0,I s.day] ay1 (0,0))] F')) ?_ ?_
 ·refine W.DR [(uU,.cells #[I s.day,I s.co,I s.wa] ql (0,0)),(yR,.cells #[I f.pl,I f.lo,I f.hi,I f.co] Jq (0,0))] (n:=11) rfl ?_
  first | refine xq 0 (Bf rfl rfl) rfl ?_ | refine xq 0 (zi rfl rfl) rfl ?_
  first | refine xq 2 (Bf rfl rfl) rfl ?_ | refine xq 2 (zi rfl rfl) rfl ?_
  refine xq 5 (ay rfl rfl) rfl ?_
  refine xq 6 (iQ rfl rfl) rfl ?_
  refine xq 7 (eH (cs:= #[I 0,I s.day]) rfl rfl rfl) rfl ?_
  refine Any.aKK (i:=1) (j:=3) (k:=8) (by kernel_rfl) (aU rfl) (aU rfl) (aU rfl) an an an rfl rfl rfl rfl rfl rfl ?_ ?_ ?_
  ·refine(DN (cs:= #[I f.pl,I f.lo,I f.hi,I f.co]) rfl rfl (by decide) (by decide) (by kernel_rfl) fun Vo _ _=>⟨.inr (by repeat(first | exact Keeps.nil | refine Keeps.one (by repeat(first | exact List.Mem.head _ | apply List.Mem.tail)) ?_)),?_⟩)
   refine Any.WB (i:=3) (j:=8) (by kernel_rfl) (aU rfl) (aU rfl) an an rfl rfl rfl rfl ?_ ?_
   ·refine(DN (cs:= #[I s.day,I s.co,I s.wa]) rfl rfl (by decide) (by decide) (by kernel_rfl) fun Uw _ _=>⟨.inr (by repeat(first | exact Keeps.nil | refine Keeps.one (by repeat(first | exact List.Mem.head _ | apply List.Mem.tail)) ?_)),?_⟩)
    refine xq 4 (eH (cs:= #[.slice (some ⟨Vo,0,none⟩) 1 1,.slice (some ⟨Uw,0,none⟩) 1 1]) rfl rfl rfl) rfl ?_
    refine Any.WB (i:=8) (j:=9) (by kernel_rfl) (aU rfl) (aU rfl) an an rfl rfl rfl rfl ?_ ?_
    ·refine(DN (cs:= #[I 0,I s.day]) rfl rfl (by decide) (by decide) (by kernel_rfl) fun aht _ _=>⟨.inr (by repeat(first | exact Keeps.nil | refine Keeps.one (by repeat(first | exact List.Mem.head _ | apply List.Mem.tail)) ?_)),?_⟩)
     refine ae (i:=9) rfl an rfl rfl (eSW rfl rfl rfl ?_)
     refine⟨.inr (by repeat(first | exact Keeps.nil | refine Keeps.one (by repeat(first | exact List.Mem.head _ | apply List.Mem.tail)) ?_)),?_⟩
     refine xq 10 (jS rfl rfl) rfl ?_
     refine az ?_
     exact⟨rfl,rfl,Vo,Uw,aht,⟨rfl,rfl,trivial⟩,Sb.trans (B:=[(wC,.cells #[.slice (some ⟨Vo,0,none⟩) 1 1,.slice (some ⟨Uw,0,none⟩) 1 1] Wy (0,0)),(Vo,.cells #[I f.pl,I f.lo,I f.hi,I f.co] Jq (0,0)),(Uw,.cells #[I s.day,I s.co,I s.wa] ql (0,0)),(aht,.cells #[I 0,I s.day] ay1 (0,0))]++[(uU,.cells #[I s.day,I s.co,I s.wa] ql (0,0)),(yR,.cells #[I f.pl,I f.lo,I f.hi,I f.co] Jq (0,0))]) (.right .refl (.cons rfl (.cons rfl .nil))) (.dF (show List.Perm _ ([(aht,.cells #[I 0,I s.day] ay1 (0,0)),(Uw,.cells #[I s.day,I s.co,I s.wa] ql (0,0)),(Vo,.cells #[I f.pl,I f.lo,I f.hi,I f.co] Jq (0,0)),(wC,.cells #[.slice (some ⟨Vo,0,none⟩) 1 1,.slice (some ⟨Uw,0,none⟩) 1 1] Wy (0,0)),(uU,.cells #[I s.day,I s.co,I s.wa] ql (0,0)),(yR,.cells #[I f.pl,I f.lo,I f.hi,I f.co] Jq (0,0))]:ah)from agQ fun y=>by simp only[List.count_append,List.count_cons,List.count_nil];omega))⟩
    ·refine(eSW rfl rfl rfl ?_)
     refine⟨.inr (by repeat(first | exact Keeps.nil | refine Keeps.one (by repeat(first | exact List.Mem.head _ | apply List.Mem.tail)) ?_)),?_⟩
     refine ae (i:=8) rfl an rfl rfl (DN (cs:= #[I 0,I s.day]) rfl rfl (by decide) (by decide) (by kernel_rfl) fun aht _ _=>⟨.inr (by repeat(first | exact Keeps.nil | refine Keeps.one (by repeat(first | exact List.Mem.head _ | apply List.Mem.tail)) ?_)),?_⟩)
     refine xq 10 (jS rfl rfl) rfl ?_
     refine az ?_
     exact⟨rfl,rfl,Vo,Uw,aht,⟨rfl,rfl,trivial⟩,Sb.trans (B:=[(wC,.cells #[.slice (some ⟨Vo,0,none⟩) 1 1,.slice (some ⟨Uw,0,none⟩) 1 1] Wy (0,0)),(Vo,.cells #[I f.pl,I f.lo,I f.hi,I f.co] Jq (0,0)),(Uw,.cells #[I s.day,I s.co,I s.wa] ql (0,0)),(aht,.cells #[I 0,I s.day] ay1 (0,0))]++[(uU,.cells #[I s.day,I s.co,I s.wa] ql (0,0)),(yR,.cells #[I f.pl,I f.lo,I f.hi,I f.co] Jq (0,0))]) (.right .refl (.cons rfl (.cons rfl .nil))) (.dF (show List.Perm _ ([(aht,.cells #[I 0,I s.day] ay1 (0,0)),(Uw,.cells #[I s.day,I s.co,I s.wa] ql (0,0)),(Vo,.cells #[I f.pl,I f.lo,I f.hi,I f.co] Jq (0,0)),(wC,.cells #[.slice (some ⟨Vo,0,none⟩) 1 1,.slice (some ⟨Uw,0,none⟩) 1 1] Wy (0,0)),(uU,.cells #[I s.day,I s.co,I s.wa] ql (0,0)),(yR,.cells #[I f.pl,I f.lo,I f.hi,I f.co] Jq (0,0))]:ah)from agQ fun y=>by simp only[List.count_append,List.count_cons,List.count_nil];omega))⟩
   ·refine(DN (cs:= #[I 0,I s.day]) rfl rfl (by decide) (by decide) (by kernel_rfl) fun aht _ _=>⟨.inr (by repeat(first | exact Keeps.nil | refine Keeps.one (by repeat(first | exact List.Mem.head _ | apply List.Mem.tail)) ?_)),?_⟩)
    refine ae (i:=3) rfl an rfl rfl (DN (cs:= #[I s.day,I s.co,I s.wa]) rfl rfl (by decide) (by decide) (by kernel_rfl) fun Uw _ _=>⟨.inr (by repeat(first | exact Keeps.nil | refine Keeps.one (by repeat(first | exact List.Mem.head _ | apply List.Mem.tail)) ?_)),?_⟩)
    refine xq 4 (eH (cs:= #[.slice (some ⟨Vo,0,none⟩) 1 1,.slice (some ⟨Uw,0,none⟩) 1 1]) rfl rfl rfl) rfl ?_
    refine ae (i:=9) rfl an rfl rfl (eSW rfl rfl rfl ?_)
    refine⟨.inr (by repeat(first | exact Keeps.nil | refine Keeps.one (by repeat(first | exact List.Mem.head _ | apply List.Mem.tail)) ?_)),?_⟩
    refine xq 10 (jS rfl rfl) rfl ?_
    refine az ?_
    exact⟨rfl,rfl,Vo,Uw,aht,⟨rfl,rfl,trivial⟩,Sb.trans (B:=[(wC,.cells #[.slice (some ⟨Vo,0,none⟩) 1 1,.slice (some ⟨Uw,0,none⟩) 1 1] Wy (0,0)),(Vo,.cells #[I f.pl,I f.lo,I f.hi,I f.co] Jq (0,0)),(Uw,.cells #[I s.day,I s.co,I s.wa] ql (0,0)),(aht,.cells #[I 0,I s.day] ay1 (0,0))]++[(uU,.cells #[I s.day,I s.co,I s.wa] ql (0,0)),(yR,.cells #[I f.pl,I f.lo,I f.hi,I f.co] Jq (0,0))]) (.right .refl (.cons rfl (.cons rfl .nil))) (.dF (show List.Perm _ ([(Uw,.cells #[I s.day,I s.co,I s.wa] ql (0,0)),(aht,.cells #[I 0,I s.day] ay1 (0,0)),(Vo,.cells #[I f.pl,I f.lo,I f.hi,I f.co] Jq (0,0)),(wC,.cells #[.slice (some ⟨Vo,0,none⟩) 1 1,.slice (some ⟨Uw,0,none⟩) 1 1] Wy (0,0)),(uU,.cells #[I s.day,I s.co,I s.wa] ql (0,0)),(yR,.cells #[I f.pl,I f.lo,I f.hi,I f.co] Jq (0,0))]:ah)from agQ fun y=>by simp only[List.count_append,List.count_cons,List.count_nil];omega))⟩
  ·refine(DN (cs:= #[I s.day,I s.co,I s.wa]) rfl rfl (by decide) (by decide) (by kernel_rfl) fun Uw _ _=>⟨.inr (by repeat(first | exact Keeps.nil | refine Keeps.one (by repeat(first | exact List.Mem.head _ | apply List.Mem.tail)) ?_)),?_⟩)
   refine Any.WB (i:=1) (j:=8) (by kernel_rfl) (aU rfl) (aU rfl) an an rfl rfl rfl rfl ?_ ?_
   ·refine(DN (cs:= #[I f.pl,I f.lo,I f.hi,I f.co]) rfl rfl (by decide) (by decide) (by kernel_rfl) fun Vo _ _=>⟨.inr (by repeat(first | exact Keeps.nil | refine Keeps.one (by repeat(first | exact List.Mem.head _ | apply List.Mem.tail)) ?_)),?_⟩)
    refine xq 4 (eH (cs:= #[.slice (some ⟨Vo,0,none⟩) 1 1,.slice (some ⟨Uw,0,none⟩) 1 1]) rfl rfl rfl) rfl ?_
    refine Any.WB (i:=8) (j:=9) (by kernel_rfl) (aU rfl) (aU rfl) an an rfl rfl rfl rfl ?_ ?_
    ·refine(DN (cs:= #[I 0,I s.day]) rfl rfl (by decide) (by decide) (by kernel_rfl) fun aht _ _=>⟨.inr (by repeat(first | exact Keeps.nil | refine Keeps.one (by repeat(first | exact List.Mem.head _ | apply List.Mem.tail)) ?_)),?_⟩)
     refine ae (i:=9) rfl an rfl rfl (eSW rfl rfl rfl ?_)
     refine⟨.inr (by repeat(first | exact Keeps.nil | refine Keeps.one (by repeat(first | exact List.Mem.head _ | apply List.Mem.tail)) ?_)),?_⟩
     refine xq 10 (jS rfl rfl) rfl ?_
     refine az ?_
     exact⟨rfl,rfl,Vo,Uw,aht,⟨rfl,rfl,trivial⟩,Sb.trans (B:=[(wC,.cells #[.slice (some ⟨Vo,0,none⟩) 1 1,.slice (some ⟨Uw,0,none⟩) 1 1] Wy (0,0)),(Vo,.cells #[I f.pl,I f.lo,I f.hi,I f.co] Jq (0,0)),(Uw,.cells #[I s.day,I s.co,I s.wa] ql (0,0)),(aht,.cells #[I 0,I s.day] ay1 (0,0))]++[(uU,.cells #[I s.day,I s.co,I s.wa] ql (0,0)),(yR,.cells #[I f.pl,I f.lo,I f.hi,I f.co] Jq (0,0))]) (.right .refl (.cons rfl (.cons rfl .nil))) (.dF (show List.Perm _ ([(aht,.cells #[I 0,I s.day] ay1 (0,0)),(Vo,.cells #[I f.pl,I f.lo,I f.hi,I f.co] Jq (0,0)),(Uw,.cells #[I s.day,I s.co,I s.wa] ql (0,0)),(wC,.cells #[.slice (some ⟨Vo,0,none⟩) 1 1,.slice (some ⟨Uw,0,none⟩) 1 1] Wy (0,0)),(uU,.cells #[I s.day,I s.co,I s.wa] ql (0,0)),(yR,.cells #[I f.pl,I f.lo,I f.hi,I f.co] Jq (0,0))]:ah)from agQ fun y=>by simp only[List.count_append,List.count_cons,List.count_nil];omega))⟩
    ·refine(eSW rfl rfl rfl ?_)
     refine⟨.inr (by repeat(first | exact Keeps.nil | refine Keeps.one (by repeat(first | exact List.Mem.head _ | apply List.Mem.tail)) ?_)),?_⟩
     refine ae (i:=8) rfl an rfl rfl (DN (cs:= #[I 0,I s.day]) rfl rfl (by decide) (by decide) (by kernel_rfl) fun aht _ _=>⟨.inr (by repeat(first | exact Keeps.nil | refine Keeps.one (by repeat(first | exact List.Mem.head _ | apply List.Mem.tail)) ?_)),?_⟩)
     refine xq 10 (jS rfl rfl) rfl ?_
     refine az ?_
     exact⟨rfl,rfl,Vo,Uw,aht,⟨rfl,rfl,trivial⟩,Sb.trans (B:=[(wC,.cells #[.slice (some ⟨Vo,0,none⟩) 1 1,.slice (some ⟨Uw,0,none⟩) 1 1] Wy (0,0)),(Vo,.cells #[I f.pl,I f.lo,I f.hi,I f.co] Jq (0,0)),(Uw,.cells #[I s.day,I s.co,I s.wa] ql (0,0)),(aht,.cells #[I 0,I s.day] ay1 (0,0))]++[(uU,.cells #[I s.day,I s.co,I s.wa] ql (0,0)),(yR,.cells #[I f.pl,I f.lo,I f.hi,I f.co] Jq (0,0))]) (.right .refl (.cons rfl (.cons rfl .nil))) (.dF (show List.Perm _ ([(aht,.cells #[I 0,I s.day] ay1 (0,0)),(Vo,.cells #[I f.pl,I f.lo,I f.hi,I f.co] Jq (0,0)),(Uw,.cells #[I s.day,I s.co,I s.wa] ql (0,0)),(wC,.cells #[.slice (some ⟨Vo,0,none⟩) 1 1,.slice (some ⟨Uw,0,none⟩) 1 1] Wy (0,0)),(uU,.cells #[I s.day,I s.co,I s.wa] ql (0,0)),(yR,.cells #[I f.pl,I f.lo,I f.hi,I f.co] Jq (0,0))]:ah)from agQ fun y=>by simp only[List.count_append,List.count_cons,List.count_nil];omega))⟩
   ·refine(DN (cs:= #[I 0,I s.day]) rfl rfl (by decide) (by decide) (by kernel_rfl) fun aht _ _=>⟨.inr (by repeat(first | exact Keeps.nil | refine Keeps.one (by repeat(first | exact List.Mem.head _ | apply List.Mem.tail)) ?_)),?_⟩)
    refine ae (i:=1) rfl an rfl rfl (DN (cs:= #[I f.pl,I f.lo,I f.hi,I f.co]) rfl rfl (by decide) (by decide) (by kernel_rfl) fun Vo _ _=>⟨.inr (by repeat(first | exact Keeps.nil | refine Keeps.one (by repeat(first | exact List.Mem.head _ | apply List.Mem.tail)) ?_)),?_⟩)
    refine xq 4 (eH (cs:= #[.slice (some ⟨Vo,0,none⟩) 1 1,.slice (some ⟨Uw,0,none⟩) 1 1]) rfl rfl rfl) rfl ?_
    refine ae (i:=9) rfl an rfl rfl (eSW rfl rfl rfl ?_)
    refine⟨.inr (by repeat(first | exact Keeps.nil | refine Keeps.one (by repeat(first | exact List.Mem.head _ | apply List.Mem.tail)) ?_)),?_⟩
    refine xq 10 (jS rfl rfl) rfl ?_
    refine az ?_
    exact⟨rfl,rfl,Vo,Uw,aht,⟨rfl,rfl,trivial⟩,Sb.trans (B:=[(wC,.cells #[.slice (some ⟨Vo,0,none⟩) 1 1,.slice (some ⟨Uw,0,none⟩) 1 1] Wy (0,0)),(Vo,.cells #[I f.pl,I f.lo,I f.hi,I f.co] Jq (0,0)),(Uw,.cells #[I s.day,I s.co,I s.wa] ql (0,0)),(aht,.cells #[I 0,I s.day] ay1 (0,0))]++[(uU,.cells #[I s.day,I s.co,I s.wa] ql (0,0)),(yR,.cells #[I f.pl,I f.lo,I f.hi,I f.co] Jq (0,0))]) (.right .refl (.cons rfl (.cons rfl .nil))) (.dF (show List.Perm _ ([(Vo,.cells #[I f.pl,I f.lo,I f.hi,I f.co] Jq (0,0)),(aht,.cells #[I 0,I s.day] ay1 (0,0)),(Uw,.cells #[I s.day,I s.co,I s.wa] ql (0,0)),(wC,.cells #[.slice (some ⟨Vo,0,none⟩) 1 1,.slice (some ⟨Uw,0,none⟩) 1 1] Wy (0,0)),(uU,.cells #[I s.day,I s.co,I s.wa] ql (0,0)),(yR,.cells #[I f.pl,I f.lo,I f.hi,I f.co] Jq (0,0))]:ah)from agQ fun y=>by simp only[List.count_append,List.count_cons,List.count_nil];omega))⟩
  ·refine(DN (cs:= #[I 0,I s.day]) rfl rfl (by decide) (by decide) (by kernel_rfl) fun aht _ _=>⟨.inr (by repeat(first | exact Keeps.nil | refine Keeps.one (by repeat(first | exact List.Mem.head _ | apply List.Mem.tail)) ?_)),?_⟩)
   refine Any.WB (i:=1) (j:=3) (by kernel_rfl) (aU rfl) (aU rfl) an an rfl rfl rfl rfl ?_ ?_
   ·refine(DN (cs:= #[I f.pl,I f.lo,I f.hi,I f.co]) rfl rfl (by decide) (by decide) (by kernel_rfl) fun Vo _ _=>⟨.inr (by repeat(first | exact Keeps.nil | refine Keeps.one (by repeat(first | exact List.Mem.head _ | apply List.Mem.tail)) ?_)),?_⟩)
    refine ae (i:=3) rfl an rfl rfl (DN (cs:= #[I s.day,I s.co,I s.wa]) rfl rfl (by decide) (by decide) (by kernel_rfl) fun Uw _ _=>⟨.inr (by repeat(first | exact Keeps.nil | refine Keeps.one (by repeat(first | exact List.Mem.head _ | apply List.Mem.tail)) ?_)),?_⟩)
    refine xq 4 (eH (cs:= #[.slice (some ⟨Vo,0,none⟩) 1 1,.slice (some ⟨Uw,0,none⟩) 1 1]) rfl rfl rfl) rfl ?_
    refine ae (i:=9) rfl an rfl rfl (eSW rfl rfl rfl ?_)
    refine⟨.inr (by repeat(first | exact Keeps.nil | refine Keeps.one (by repeat(first | exact List.Mem.head _ | apply List.Mem.tail)) ?_)),?_⟩
    refine xq 10 (jS rfl rfl) rfl ?_
    refine az ?_
    exact⟨rfl,rfl,Vo,Uw,aht,⟨rfl,rfl,trivial⟩,Sb.trans (B:=[(wC,.cells #[.slice (some ⟨Vo,0,none⟩) 1 1,.slice (some ⟨Uw,0,none⟩) 1 1] Wy (0,0)),(Vo,.cells #[I f.pl,I f.lo,I f.hi,I f.co] Jq (0,0)),(Uw,.cells #[I s.day,I s.co,I s.wa] ql (0,0)),(aht,.cells #[I 0,I s.day] ay1 (0,0))]++[(uU,.cells #[I s.day,I s.co,I s.wa] ql (0,0)),(yR,.cells #[I f.pl,I f.lo,I f.hi,I f.co] Jq (0,0))]) (.right .refl (.cons rfl (.cons rfl .nil))) (.dF (show List.Perm _ ([(Uw,.cells #[I s.day,I s.co,I s.wa] ql (0,0)),(Vo,.cells #[I f.pl,I f.lo,I f.hi,I f.co] Jq (0,0)),(aht,.cells #[I 0,I s.day] ay1 (0,0)),(wC,.cells #[.slice (some ⟨Vo,0,none⟩) 1 1,.slice (some ⟨Uw,0,none⟩) 1 1] Wy (0,0)),(uU,.cells #[I s.day,I s.co,I s.wa] ql (0,0)),(yR,.cells #[I f.pl,I f.lo,I f.hi,I f.co] Jq (0,0))]:ah)from agQ fun y=>by simp only[List.count_append,List.count_cons,List.count_nil];omega))⟩
   ·refine(DN (cs:= #[I s.day,I s.co,I s.wa]) rfl rfl (by decide) (by decide) (by kernel_rfl) fun Uw _ _=>⟨.inr (by repeat(first | exact Keeps.nil | refine Keeps.one (by repeat(first | exact List.Mem.head _ | apply List.Mem.tail)) ?_)),?_⟩)
    refine ae (i:=1) rfl an rfl rfl (DN (cs:= #[I f.pl,I f.lo,I f.hi,I f.co]) rfl rfl (by decide) (by decide) (by kernel_rfl) fun Vo _ _=>⟨.inr (by repeat(first | exact Keeps.nil | refine Keeps.one (by repeat(first | exact List.Mem.head _ | apply List.Mem.tail)) ?_)),?_⟩)
    refine xq 4 (eH (cs:= #[.slice (some ⟨Vo,0,none⟩) 1 1,.slice (some ⟨Uw,0,none⟩) 1 1]) rfl rfl rfl) rfl ?_
    refine ae (i:=9) rfl an rfl rfl (eSW rfl rfl rfl ?_)
    refine⟨.inr (by repeat(first | exact Keeps.nil | refine Keeps.one (by repeat(first | exact List.Mem.head _ | apply List.Mem.tail)) ?_)),?_⟩
    refine xq 10 (jS rfl rfl) rfl ?_
    refine az ?_
    exact⟨rfl,rfl,Vo,Uw,aht,⟨rfl,rfl,trivial⟩,Sb.trans (B:=[(wC,.cells #[.slice (some ⟨Vo,0,none⟩) 1 1,.slice (some ⟨Uw,0,none⟩) 1 1] Wy (0,0)),(Vo,.cells #[I f.pl,I f.lo,I f.hi,I f.co] Jq (0,0)),(Uw,.cells #[I s.day,I s.co,I s.wa] ql (0,0)),(aht,.cells #[I 0,I s.day] ay1 (0,0))]++[(uU,.cells #[I s.day,I s.co,I s.wa] ql (0,0)),(yR,.cells #[I f.pl,I f.lo,I f.hi,I f.co] Jq (0,0))]) (.right .refl (.cons rfl (.cons rfl .nil))) (.dF (show List.Perm _ ([(Vo,.cells #[I f.pl,I f.lo,I f.hi,I f.co] Jq (0,0)),(Uw,.cells #[I s.day,I s.co,I s.wa] ql (0,0)),(aht,.cells #[I 0,I s.day] ay1 (0,0)),(wC,.cells #[.slice (some ⟨Vo,0,none⟩) 1 1,.slice (some ⟨Uw,0,none⟩) 1 1] Wy (0,0)),(uU,.cells #[I s.day,I s.co,I s.wa] ql (0,0)),(yR,.cells #[I f.pl,I f.lo,I f.hi,I f.co] Jq (0,0))]:ah)from agQ fun y=>by simp only[List.count_append,List.count_cons,List.count_nil];omega))⟩
 rintro e ρ' ds' F' ⟨rfl,rfl,Vo,Uw,aht,hE0,hsb⟩
 refine aA (W.env hE0 (W.sb hsb ?_))
 refine W.ret ?_
 exact QJ (hv:=D_ (RN zJ)) ⟨Vo,Uw,aht,rfl,.skip rfl .refl⟩
end Go.aS

/- Quiet operations whose values are named anew. Conditions: none; over any program. -/
namespace Go.aS
section
variable{x:Cx}{Q:Post}{ρ:Env}{ds:List Deferred}{F L:ah}{ops:Array Oper}{i d:Nat}{rest:List Nat}{op:Op}{ty:TypeId}{pos:String}{bK:Array Edge}{g:Option (Nat×Bool)}{v u:Value}
theorem KU(hy:Yv x (· =F) ρ ⟨some d,op,ty,pos,bK,g⟩ v)(e:v=u)(ho:cO ops.toList i=some ⟨some d,op,ty,pos,bK,g⟩)(hw:want ops ρ ⟨some d,op,ty,pos,bK,g⟩)(hd:Nat.blt d x.n=true)(hn:cu op=true)(H:Ops x ops rest Q ((d,u)::ρ) ds F):Ops x ops (i::rest) Q ρ ds F:=
 oq (e▸hy) ho hw hd hn H
theorem aqe{fuel listed:Nat}(hy:Yv x (Keeps L) ρ ⟨some d,op,ty,pos,bK,g⟩ v)(e:v=u)(ho:cO ops.toList i=some ⟨some d,op,ty,pos,bK,g⟩)(hw:dR ops (look ρ) ⟨some d,op,ty,pos,bK,g⟩ true)(hd:Nat.blt d x.n=true)(hn:cu op=true)(H:Any x ops L fuel (listed||| 2 ^ i) Q ((d,u)::ρ) ds F)(hr:(Fq ops listed i&&xR ops listed i&&DJ ops)=true:=by kernel_rfl)(hS:Keeps L F:=by first | exact fun _ h=>h | exact fun _ h=>absurd h List.not_mem_nil | ((repeat(first | exact fun _ h=>h | apply Keeps.cons | apply Keeps.app)) <;>fail) | (repeat(first | exact Keeps.nil | refine Keeps.one (by repeat(first | exact List.Mem.head _ | apply List.Mem.tail)) ?_))):Any x ops L (fuel+1) listed Q ρ ds F:=
 aq (e▸hy) ho hw hd hn H hr hS
end
section
variable{x:Cx}{S:ah→Prop}{ρ:Env}{o:Oper}
end
end Go.aS

/- errors.As, at the package's own error. Conditions: none; over the given program. -/
namespace Go.aS
set_option maxRecDepth 100000
set_option maxHeartbeats 4000000
open Go.Extern
abbrev Qh:Array Value→Sem Value:=fun args=>ReflectliteValue.unpack (args.getD 0 (.tuple #[]))
abbrev xType:Array Value→Sem Value:=ReflectliteValue.methodAny (ReflectliteValue.valueError "reflectlite.Value.Type" 0) fun t _ _ _=>ReflectliteType.toType t
abbrev X9:Array Value→Sem Value:=ReflectliteValue.method (ReflectliteValue.valueError "reflectlite.Value.IsNil" 0) ReflectliteValue.isNil
abbrev X_:Array Value→Sem Value:=ReflectliteValue.method (ReflectliteValue.valueError "reflectlite.Value.Elem" 0) ReflectliteValue.elem
abbrev adB:Array Value→Sem Value:=ReflectliteType.abiMethod fun t=>do pure (.int .u8 (←Rtype.kind t))
instance:XF prog oD Qh:=⟨oG,xk,by kernel_rfl,by kernel_rfl,by kernel_rfl,by kernel_rfl⟩
instance:XF prog kX xType:=⟨kY,sQ,by kernel_rfl,by kernel_rfl,by kernel_rfl,by kernel_rfl⟩
instance:XF prog kG X9:=⟨kH,rX,by kernel_rfl,by kernel_rfl,by kernel_rfl,by kernel_rfl⟩
instance:XF prog lD X_:=⟨lF,sW,by kernel_rfl,by kernel_rfl,by kernel_rfl,by kernel_rfl⟩
instance:XF prog mJ ReflectliteValue.set:=⟨mM,uQ,by kernel_rfl,by kernel_rfl,by kernel_rfl,by kernel_rfl⟩
instance:XF prog pW ReflectliteType.typeOf:=⟨pX,yO,by kernel_rfl,by kernel_rfl,by kernel_rfl,by kernel_rfl⟩
instance:XF prog iO (ReflectliteType.method ReflectliteType.elem):=⟨lK,tq,by kernel_rfl,by kernel_rfl,by kernel_rfl,by kernel_rfl⟩
instance:XF prog fD (ReflectliteType.relation "Implements" ReflectliteType.implements_):=⟨jf,n_,by kernel_rfl,by kernel_rfl,by kernel_rfl,by kernel_rfl⟩
instance:XF prog eu (ReflectliteType.relation "AssignableTo" ReflectliteType.assignableTo):=⟨iI,mY,by kernel_rfl,by kernel_rfl,by kernel_rfl,by kernel_rfl⟩
instance:XF prog lS adB:=⟨yw,FY,by kernel_rfl,by kernel_rfl,by kernel_rfl,by kernel_rfl⟩

noncomputable abbrev Ur(t:TypeId):Value:=.iface qI (.agg #[typeHandle prog t])
noncomputable abbrev Us(t:TypeId)(a:Addr)(n:Int):Value:=.agg #[typeHandle prog t,.pointer (some a),.int .u64 n]

theorem L_{h:Hp}{F:ah}{t:TypeId}{v:Value}{cs:Array Value}{n:Int}(hc:v.cells=cs)(hm:∀a,J_ prog (ReflectliteValue.mk t a 0)=some (Us t a n)):tr prog h (Qh #[.iface t v]) F (fun r F'=>∃β,r=Us t ⟨β,0,none⟩ n∧F'=(β,.cells cs t (0,0))::F):=by
 show tr prog h (Sem.bind (newVar t v) fun a=>ReflectliteValue.mk t a 0) F _
 simp only[newVar,newRow,bind_eq,au,bind_assoc,bind_pure,hc]
 exact wI fun r _ _=>oU (hm _) ⟨r,rfl,rfl⟩
theorem Ya{h:Hp}{F:ah}{β b:Nat}{c:Array Value}{E:TypeId}{fz:Nat×Nat}(hl:Look h F β (.cells c E fz))(hc:c[0]? =some (.pointer (some ⟨b,0,none⟩))):tr prog h (X9 #[Us NI ⟨β,0,none⟩ 150]) F (fun r F'=>r= .bool false∧F'=F):=by
 show tr prog h (Sem.bind (ReflectliteValue.parts (Us NI ⟨β,0,none⟩ 150)) _) F _
 refine bJ (oU (a:=some (NI,⟨β,0,none⟩,150)) (by kernel_rfl) ?_)
 show tr prog h (Sem.bind (loadVar NI ⟨β,0,none⟩) _) F _
 exact bJ (uw hl hc ⟨rfl,rfl⟩)
theorem Yb{h:Hp}{F:ah}{β b:Nat}{c:Array Value}{E:TypeId}{fz:Nat×Nat}(hl:Look h F β (.cells c E fz))(hc:c[0]? =some (.pointer (some ⟨b,0,none⟩))):tr prog h (X_ #[Us NI ⟨β,0,none⟩ 150]) F (fun r F'=>r=Us vw ⟨b,0,none⟩ 409∧F'=F):=by
 show tr prog h (Sem.bind (ReflectliteValue.parts (Us NI ⟨β,0,none⟩ 150)) _) F _
 refine bJ (oU (a:=some (NI,⟨β,0,none⟩,150)) (by kernel_rfl) ?_)
 show tr prog h (Sem.bind (loadVar NI ⟨β,0,none⟩) fun v=>Sem.bind (Rtype.elem? NI) fun e=>_) F _
 refine bJ (uw hl hc ?_)
 refine bJ (oU (a:=some vw) (by kernel_rfl) ?_)
 exact oU (a:=Us vw ⟨b,0,none⟩ 409) (by kernel_rfl) ⟨rfl,rfl⟩
theorem abU{h:Hp}{F:ah}{b β:Nat}{c vs:Array Value}{E E':TypeId}{fz:Nat×Nat}{U:Obj→ah}(hl:At b (.cells c E (0,0)) F U)(hc:c.size=1)(hs:Look h F β (.cells vs E' fz))(hn:vs.size=1)(h1:ones vs.toList=true):tr prog h (ReflectliteValue.set #[Us vw ⟨b,0,none⟩ 409,Us vw ⟨β,0,none⟩ 153]) F (fun r F'=>r= .tuple #[]∧F'=U (.cells vs E (0,0))):=by
 show tr prog h (Sem.bind (ReflectliteValue.parts (Us vw ⟨b,0,none⟩ 409)) fun p=>Sem.bind (ReflectliteValue.parts (Us vw ⟨β,0,none⟩ 153)) fun q=>_) F _
 refine bJ (oU (a:=some (vw,⟨b,0,none⟩,409)) (by kernel_rfl) ?_)
 refine bJ (oU (a:=some (vw,⟨β,0,none⟩,153)) (by kernel_rfl) ?_)
 show tr prog h (Sem.bind (loadVar vw ⟨β,0,none⟩) fun val=>Sem.bind (Rtype.directlyAssignable vw vw) fun d=>_) F _
 refine bJ (BM (n:=1) hs (by omega) ?_)
 refine bJ (oU (a:=true) (by kernel_rfl) ?_)
 show tr prog h (Sem.bind (storeVar vw ⟨b,0,none⟩ _) fun _=>.pure (Value.tuple #[])) F _
 have e:vs.extract 0 (0+1)=vs:=by apply Array.ext';simp[←hn]
 have hcs:(Value.agg vs).cells=vs:=rfl
 rw[e]
 simp only[storeVar,bind_eq,au,bind_assoc,bind_pure,o9,hcs,hn,ne_eq,not_true_eq_false,if_false]
 refine bJ (kV vs.toList 0 c h1 hl (by simp;omega) ⟨rfl,?_⟩)
 rw[Nat.add_zero,IL (by simp;omega)]

theorem adC(main:Side)(h:Hp)(cd:Int)(β b1:Nat)(c c1:Array Value)(E1:TypeId)(z1:Nat×Nat)(hc:c.size=1)(h1:h b1=some (.cells c1 E1 z1))(hc1:c1[0]? =some (.pointer (some ⟨β,0,none⟩))):
  dV prog main GN #[.iface vw (.agg #[I cd]),.iface NI (.pointer (some ⟨β,0,none⟩)),Us NI ⟨b1,0,none⟩ 150,Ur vw] h [(β,.cells c vw (0,0))] (fun v A=>v= .bool true∧Sb [(β,.cells #[I cd] vw (0,0))] A):=by
 refine dV.aG N9 rfl (by show 4≤62;decide) [(0,.iface vw (.agg #[I cd])),(1,.iface NI (.pointer (some ⟨β,0,none⟩))),(2,Us NI ⟨b1,0,none⟩ 150),(3,Ur vw)] ⟨rfl,rfl,rfl,rfl,trivial⟩ ?_
 refine W.seq<|W.region rfl ?_
 refine Ops.box (fun yC=>?_)
 refine agb rfl rfl rfl<|pq<|W.block ?_
 refine W.loop (σ:=Unit) (fun _=>True) (fun _=>[(8,.bool false),(6,.pointer (some ⟨yC,0,none⟩)),(0,.iface vw (.agg #[I cd])),(1,.iface NI (.pointer (some ⟨β,0,none⟩))),(3,Ur vw)]) (fun _=>[(yC,.cells #[typeHandle prog NI,.pointer (some ⟨b1,0,none⟩),.int .u64 150] BH (0,0)),(β,.cells c vw (0,0))]) (fun _=>0) () trivial ⟨rfl,rfl,rfl,rfl,rfl,trivial⟩ .refl ?_
 rintro⟨⟩ -
 refine W.block<|W.seq<|W.seq<|W.region rfl<|qm rfl rfl rfl ?_
 refine cxp (r:=Ur vw) (by kernel_rfl) ?_
 refine qm rfl rfl rfl ?_
 refine cix (f:=eu) (u':=.agg #[typeHandle prog vw]) (r:=.bool true) (by kernel_rfl) (by kernel_rfl) ?_
 refine pq ?_
 refine W.dW ?_
 refine W.seq<|W.region rfl ?_
 first | refine ag2 rfl ?_ | refine agW (ady rfl rfl) rfl ?_
 refine cx (fun h' hE=>Yb (.inl (hE.1 _ _ h1)) hc1) (fun v F' hv=>?_)
 obtain⟨rfl,rfl⟩:=hv
 refine qm rfl rfl rfl ?_
 refine cx (fun h' hE=>L_ (n:=153) rfl (fun a=>by kernel_rfl)) (fun v F' hv=>?_)
 obtain⟨yR,rfl,rfl⟩:=hv
 refine cx (fun h' hE=>abU (b:=β) (β:=yR) (.tail (.tail .head)) hc (.inr (.head _)) rfl (show(one (I cd)&&true)=true from rfl)) (fun v F' hv=>?_)
 obtain⟨rfl,rfl⟩:=hv
 refine pq<|W.seq<|W.region rfl<|agb rfl rfl rfl<|pq<|W.ret<|aY<|cZ ?_
 refine aY<|cZ ?_
 exact mg ⟨rfl,TW⟩

theorem adD(main:Side)(h:Hp)(cd:Int)(β:Nat)(c:Array Value)(Eg:TypeId)(zg:Nat×Nat)(hc:c.size=1)(hg:h 0=some (.cells #[Ur qM] Eg zg)):
  dV prog main zQ #[.iface vw (.agg #[I cd]),.iface NI (.pointer (some ⟨β,0,none⟩))] h [(β,.cells c vw (0,0))] (fun v A=>v= .bool true∧Sb [(β,.cells #[I cd] vw (0,0))] A):=by
 refine dV.aG Ep rfl (by show 2≤42;decide) [(0,.iface vw (.agg #[I cd])),(1,.iface NI (.pointer (some ⟨β,0,none⟩)))] ⟨rfl,rfl,trivial⟩ ?_
 refine W.seq<|W.region rfl<|agb rfl rfl rfl<|pq<|W.seq<|W.seq<|W.region rfl<|qm rfl rfl rfl ?_
 refine agW (Xz rfl rfl) rfl ?_
 refine pq ?_
 refine W.bZ ?_
 refine W.skip<|aA<|W.seq<|W.seq<|W.region rfl<|qm rfl rfl rfl ?_
 refine agW (Xz rfl rfl) rfl ?_
 refine pq ?_
 refine W.bZ ?_
 refine W.skip<|aA<|W.seq<|W.region rfl<|qm rfl rfl rfl ?_
 refine cx (fun h' hE=>L_ (n:=150) rfl (fun a=>by kernel_rfl)) (fun v F' hv=>?_)
 obtain⟨β1,rfl,rfl⟩:=hv
 refine Ops.new (fun mZ=>?_)
 first | refine Ops.jP ?_ | refine Ops.nY ?_
 refine pq<|W.seq<|W.region rfl ?_
 first | refine ag2 rfl ?_ | refine agW (ady rfl rfl) rfl ?_
 refine cxp (r:=Ur NI) (by kernel_rfl) ?_
 refine agb rfl rfl rfl<|pq<|W.seq<|W.seq<|W.region rfl<|qm rfl rfl rfl ?_
 refine cix (f:=lS) (u':=typeHandle prog NI) (r:=.int .u8 22) (by kernel_rfl) (by kernel_rfl) ?_
 refine KU (nG rfl rfl rfl) (show Value.bool (decide ((22:Int)≠22))= .bool false from rfl) rfl wn rfl rfl ?_
 refine qm rfl rfl rfl ?_
 first | refine oq (Bf rfl rfl) rfl (ak rfl rfl rfl) rfl rfl ?_ | refine oq (zi rfl rfl) rfl (ak rfl rfl rfl) rfl rfl ?_ | refine oq (ady rfl rfl) rfl (ak rfl rfl rfl) rfl rfl ?_
 refine cx (fun h' hE=>Ya (β:=β1) (b:=β) (.inr (by repeat(first | exact List.Mem.head _ | apply List.Mem.tail))) rfl) (fun v F' hv=>?_)
 obtain⟨rfl,rfl⟩:=hv
 refine agW (iH rfl rfl rfl) rfl ?_
 refine pq ?_
 refine W.bZ ?_
 refine W.skip<|aA<|W.seq<|W.region rfl<|qm rfl rfl rfl ?_
 refine cix (f:=iO) (u':=.agg #[typeHandle prog NI]) (r:=Ur vw) (by kernel_rfl) (by kernel_rfl) ?_
 refine agb rfl rfl rfl<|pq<|W.seq<|W.seq<|W.region rfl<|qm rfl rfl rfl ?_
 refine cix (f:=lS) (u':=typeHandle prog vw) (r:=.int .u8 25) (by kernel_rfl) (by kernel_rfl) ?_
 refine KU (nG rfl rfl rfl) (show Value.bool (decide ((25:Int)≠20))= .bool true from rfl) rfl wn rfl rfl ?_
 refine qm rfl rfl rfl ?_
 refine oq (aN rfl rfl) rfl (ak rfl rfl rfl) rfl rfl ?_
 refine oq (iQ rfl rfl (.inl hg) rfl) rfl (ak rfl rfl rfl) rfl rfl ?_
 refine cix (f:=fD) (u':=.agg #[typeHandle prog vw]) (r:=.bool true) (by kernel_rfl) (by kernel_rfl) ?_
 refine oq (xU rfl rfl) rfl (ak rfl rfl rfl) rfl rfl ?_
 refine agW (dG rfl rfl rfl) rfl ?_
 refine pq ?_
 refine W.bZ ?_
 refine W.skip<|aA<|W.seq<|W.region rfl<|qm rfl rfl rfl<|qm rfl rfl rfl ?_
 first | refine ag2 rfl ?_ | refine agW (ady rfl rfl) rfl ?_
 refine qm rfl rfl rfl ?_
 refine cg (A:=[(β,.cells c vw (0,0))]) (.tail (.tail .head)) (fun h' hE hL=>adC _ h' cd β β1 c _ _ _ hc (hL β1 _ (by repeat(first | exact List.Mem.head _ | apply List.Mem.tail))) rfl) (fun v A' hv=>?_)
 obtain⟨rfl,hsb⟩:=hv
 refine agb rfl rfl rfl<|pq<|W.ret ?_
 refine mg ⟨rfl,?_⟩
 exact .skip rfl (.skip rfl (hsb.trans (.right .refl .nil)))
theorem Yc(main:Side)(h:Hp)(tv:Value):Pu prog main zQ #[.nilIface,tv] h (.bool false):=by
 refine dV.aG Ep rfl (by show 2≤42;decide) [(0,.nilIface),(1,tv)] ⟨rfl,rfl,trivial⟩ ?_
 refine W.seq<|W.region rfl<|agb rfl rfl rfl<|pq<|W.seq<|W.seq<|W.region rfl<|qm rfl rfl rfl ?_
 refine agW (abK rfl rfl) rfl ?_
 refine pq ?_
 refine W.dW ?_
 refine W.seq<|W.region rfl<|agb rfl rfl rfl<|pq<|W.ret<|aY ?_
 exact uZ rfl
end Go.aS

/- Structs and arrays of numbers beside each other; maps whose keys are of these. Conditions: none; over any program. -/
namespace Go.aS
class NS(P:Program)(t:TypeId):Prop where
 stood:P.stoodInHeld t=false
 guard:P.eqGuardType P.depth t=false

abbrev nI(n:Int):Value:=.int .i64 n
def EqAt(P:Program)(t:TypeId)(w K:Nat):Prop:=∀{h:Hp} {F:ah} {β:Type} {f:Bool→Sem β} {Q:β→ah→Prop} (d:Nat) {xs ys:Array Value} {off:Nat} {us bs:List Int},us.length=w→bs.length=w→Part xs off (us.map nI)→Part ys off (bs.map nI)→
 tr P h ((part t xs off).bind fun x=>(part t ys off).bind fun y=>(Op.equalIn (d+K) t x y).bind f) F Q=tr P h (f (decide (us=bs))) F Q
def V7(P:Program)(t:TypeId)(w K:Nat):Prop:=∀{h:Hp} {F:ah} {β:Type} {f:Bool→Sem β} {Q:β→ah→Prop} (d:Nat) {us bs:List Int},us.length=w→bs.length=w→
 tr P h ((Op.equalIn (d+K) t (.agg (us.map nI).toArray) (.agg (bs.map nI).toArray)).bind f) F Q=tr P h (f (decide (us=bs))) F Q

theorem EqAt.le{P:Program}{t w K K':Nat}(H:EqAt P t w K)(h:K≤K'):EqAt P t w K':=by
 intro hp F β f Q d xs ys off us bs h1 h2 h3 h4
 have:= @H hp F β f Q (d+(K'-K)) xs ys off us bs h1 h2 h3 h4
 rwa[show d+(K'-K)+K=d+K' by omega]at this
theorem EqAt.int{P:Program}{t:TypeId}[TD P t (.int .i64)][SC P t]:EqAt P t 1 1:=by
 intro hp F β f Q d xs ys off us bs h1 h2 h3 h4
 obtain⟨a,rfl⟩:=List.length_eq_one_iff.1 h1
 obtain⟨b,rfl⟩:=List.length_eq_one_iff.1 h2
 have e1:xs[off]? =some (nI a):=h3.get (j:=0) (by simp)
 have e2:ys[off]? =some (nI b):=h4.get (j:=0) (by simp)
 rw[lT e1,lT e2]
 simp only[Op.equalIn,bind_eq,au,bind_assoc,bind_pure,aC,if_true]
 congr 2
 rw[Ii]
 by_cases h:a=b <;>simp[h]
theorem V7.at{P:Program}{t w K:Nat}(H:V7 P t w K)[AG P t w]:EqAt P t w K:=by
 intro hp F β f Q d xs ys off us bs h1 h2 h3 h4
 have e1:=h3.extract
 have e2:=h4.extract
 rw[List.length_map,h1]at e1
 rw[List.length_map,h2]at e2
 rw[ru,ru,e1,e2]
 exact H d h1 h2

theorem EN{us bs:List Int}{w:Nat}(h:us.take w=bs.take w)(h':us.drop w=bs.drop w):us=bs:=by
 rw[←List.take_append_drop w us,←List.take_append_drop w bs,h,h']
theorem Part.two{xs:Array Value}{off w:Nat}{us:List Int}(h:Part xs off (us.map nI))(hw:w≤us.length):Part xs off ((us.take w).map nI)∧Part xs (off+w) ((us.drop w).map nI):=by
 have e:us.map nI=[]++((us.take w).map nI++(us.drop w).map nI):=by rw[List.nil_append,←List.map_append,List.take_append_drop]
 constructor
 ·rw[e]at h;exact h.sub
 ·have e':us.map nI=(us.take w).map nI++((us.drop w).map nI++[]):=by rw[List.append_nil,←List.map_append,List.take_append_drop]
  rw[e']at h
  have:=h.sub
  rwa[List.length_map,List.length_take,Nat.min_eq_left hw]at this

def Lay(P:Program)(K:Nat):List Field→List Nat→Nat→Prop
 | [],[],_=>True
 | f::fs,w::ws,o=>f.name≠ "_" ∧f.offset=o∧EqAt P f.type w K∧Lay P K fs ws (o+w)
 | _,_,_=>False

theorem Lay.nil{P:Program}{K o:Nat}:Lay P K [] [] o:=trivial
theorem Lay.cons{P:Program}{K o w:Nat}{f:Field}{fs:List Field}{ws:List Nat}(hn:f.name≠ "_")(ho:f.offset=o)(he:EqAt P f.type w K)(hl:Lay P K fs ws (o+w)):Lay P K (f::fs) (w::ws) o:=⟨hn,ho,he,hl⟩
theorem L6{P:Program}{K:Nat}{xs ys:Array Value}{hp:Hp}{F:ah}{β:Type}{Q:β→ah→Prop}(d:Nat){g:Option Bool×Unit→Sem β}:∀(fs:List Field) (ws:List Nat) (o:Nat) (us bs:List Int),Lay P K fs ws o→us.length=ws.sum→bs.length=ws.sum→Part xs o (us.map nI)→Part ys o (bs.map nI)→
  tr P hp ((
            forIn fs (
            (none,()):Option Bool×Unit) fun f __s=>
         if f.name≠ "_" then
          (
           part f.type xs f.offset).bind fun __do_lift=>
           (
            part f.type ys f.offset).bind fun __do_lift_1=>
            (
             Op.equalIn (d+K) f.type __do_lift __do_lift_1).bind fun __do_lift=>
             if(!__do_lift)=true then Sem.pure (ForInStep.done (some false,()))
             else Sem.pure (ForInStep.yield (none,()))
         else Sem.pure (ForInStep.yield (none,()))).bind g) F Q=tr P hp (g (if us=bs then(none,())else(some false,()))) F Q
 | [],[],o,us,bs,_,h1,h2,h3,h4=>by
  have e1:us=[]:=List.length_eq_zero_iff.1 (by simpa using h1)
  have e2:bs=[]:=List.length_eq_zero_iff.1 (by simpa using h2)
  subst e1 e2
  simp only[List.forIn_nil,au,bind_pure,if_true]
 | f::fs,w::ws,o,us,bs,hl,h1,h2,h3,h4=>by
  obtain⟨hn,ho,he,hl⟩:=hl
  simp only[List.sum_cons]at h1 h2
  obtain⟨p1,p2⟩:=h3.two (w:=w) (by omega)
  obtain⟨q1,q2⟩:=h4.two (w:=w) (by omega)
  have e1:(us.take w).length=w:=by simp;omega
  have e2:(bs.take w).length=w:=by simp;omega
  subst ho
  simp only[List.forIn_cons,bind_eq,if_pos hn,bind_assoc]
  rw[he d e1 e2 p1 q1]
  by_cases hc:us.take w=bs.take w
  ·simp only[hc,decide_true,Bool.not_true,Bool.false_eq_true,if_false,bind_pure]
   rw[L6 d fs ws _ (us.drop w) (bs.drop w) hl (by simp;omega) (by simp;omega) p2 q2]
   by_cases hd:us.drop w=bs.drop w
   ·rw[if_pos hd,if_pos (EN hc hd)]
   ·rw[if_neg hd,if_neg (fun h=>hd (by rw[h]))]
  ·simp only[hc,decide_false,Bool.not_false,if_true,bind_pure]
   rw[if_neg (fun h=>hc (by rw[h]))]
   simp only[au,bind_pure]
 | [],_::_,_,_,_,hl,_,_,_,_=>hl.elim
 | _::_,[],_,_,_,hl,_,_,_,_=>hl.elim

theorem V7.struct{P:Program}{t:TypeId}{fs:Array Field}{ws:List Nat}{K:Nat}[TD P t (.struct fs)][n:NS P t](hl:Lay P K fs.toList ws 0):V7 P t ws.sum (K+1):=by
 intro hp F β f Q d us bs h1 h2
 have hs:=n.stood
 show tr P hp ((Op.equalIn (d+K+1) t _ _).bind f) F Q=_
 simp only[Op.equalIn,bind_eq,au,bind_assoc,bind_pure,aC,program,Sem.bind,tr,hs,Bool.false_eq_true,if_false]
 rw[←Array.forIn_toList,L6 d fs.toList ws 0 us bs hl h1 h2 (Part.all _) (Part.all _)]
 by_cases h:us=bs <;>simp[h,bind_pure]

theorem Qd{P:Program}{E w K:Nat}{xs ys:Array Value}{hp:Hp}{F:ah}{β:Type}{Q:β→ah→Prop}(he:EqAt P E w K)(d:Nat){g:Option Bool×Unit→Sem β}:∀(n i:Nat) (us bs:List Int),us.length=n*w→bs.length=n*w→Part xs (i*w) (us.map nI)→Part ys (i*w) (bs.map nI)→
  tr P hp ((
       forIn (List.range' i n) ((none,()):Option Bool×Unit) fun i __s=>
      (
       part E xs (i*w)).bind fun __do_lift=>
       (
        part E ys (i*w)).bind fun __do_lift_1=>
        (
         Op.equalIn (d+K) E __do_lift __do_lift_1).bind fun __do_lift=>
         if(!__do_lift)=true then Sem.pure (ForInStep.done (some false,()))
         else Sem.pure (ForInStep.yield (none,()))).bind g) F Q=tr P hp (g (if us=bs then(none,())else(some false,()))) F Q
 | 0,i,us,bs,h1,h2,h3,h4=>by
  have e1:us=[]:=List.length_eq_zero_iff.1 (by simpa using h1)
  have e2:bs=[]:=List.length_eq_zero_iff.1 (by simpa using h2)
  subst e1 e2
  simp only[List.range'_zero,List.forIn_nil,au,bind_pure,if_true]
 | n+1,i,us,bs,h1,h2,h3,h4=>by
  rw[Nat.succ_mul]at h1 h2
  obtain⟨p1,p2⟩:=h3.two (w:=w) (by omega)
  obtain⟨q1,q2⟩:=h4.two (w:=w) (by omega)
  have e1:(us.take w).length=w:=by simp;omega
  have e2:(bs.take w).length=w:=by simp;omega
  have e3:i*w+w=(i+1)*w:=by rw[Nat.succ_mul]
  rw[e3]at p2 q2
  simp only[List.range'_succ,List.forIn_cons,bind_eq,bind_assoc]
  rw[he d e1 e2 p1 q1]
  by_cases hc:us.take w=bs.take w
  ·simp only[hc,decide_true,Bool.not_true,Bool.false_eq_true,if_false,bind_pure]
   rw[Qd he d n (i+1) (us.drop w) (bs.drop w) (by simp;omega) (by simp;omega) p2 q2]
   by_cases hd:us.drop w=bs.drop w
   ·rw[if_pos hd,if_pos (EN hc hd)]
   ·rw[if_neg hd,if_neg (fun h=>hd (by rw[h]))]
  ·simp only[hc,decide_false,Bool.not_false,if_true,bind_pure]
   rw[if_neg (fun h=>hc (by rw[h]))]
   simp only[au,bind_pure]

theorem V7.array{P:Program}{t n E w K:Nat}{s:Nat}{z:Value}{zc:Array Value}[TD P t (.array n E)][TI P E w s z zc](he:EqAt P E w K):V7 P t (n*w) (K+1):=by
 intro hp F β f Q d us bs h1 h2
 show tr P hp ((Op.equalIn (d+K+1) t _ _).bind f) F Q=_
 simp only[Op.equalIn,bind_eq,au,bind_assoc,bind_pure,aC,dH]
 rw[Std.Legacy.Range.forIn_eq_forIn_range']
 have e:(Std.Legacy.Range.size [:n])=n:=by simp[Std.Legacy.Range.size]
 rw[e]
 refine(Qd he d n 0 us bs h1 h2 (by rw[Nat.zero_mul];exact Part.all _) (by rw[Nat.zero_mul];exact Part.all _)).trans ?_
 by_cases h:us=bs <;>simp[h,bind_pure]

class EV(P:Program)(t:TypeId)(w:outParam Nat):Prop where
 out:V7 P t w 9
theorem V7.le{P:Program}{t w K K':Nat}(H:V7 P t w K)(h:K≤K'):V7 P t w K':=by
 intro hp F β f Q d us bs h1 h2
 have:= @H hp F β f Q (d+(K'-K)) us bs h1 h2
 rwa[show d+(K'-K)+K=d+K' by omega]at this

section rules
variable{x:Cx}{ρ:Env}{F:ah}{S:ah→Prop}{o:Oper}{R:Value→ah→Prop}
theorem X7{P:Program}{t w:Nat}[v:EV P t w]{h:Hp}{F:ah}{β:Type}{f:Bool→Sem β}{Q:β→ah→Prop}{us bs:List Int}(h1:us.length=w)(h2:bs.length=w):tr P h ((Op.equal t (.agg (us.map nI).toArray) (.agg (bs.map nI).toArray)).bind f) F Q=tr P h (f (decide (us=bs))) F Q:=by
 have e:Op.equal t (.agg (us.map nI).toArray) (.agg (bs.map nI).toArray)=Op.equalIn (9991+9) t (.agg (us.map nI).toArray) (.agg (bs.map nI).toArray):=rfl
 rw[e]
 exact v.out 9991 h1 h2
theorem adA{t t' w:Nat}{y z:Operand}{u v:Value}(us bs:List Int)(ho:o.op= .binOp .eql t y z t')[EV x.P t w][n:NS x.P t](hy:ev ρ y=some u)(hz:ev ρ z=some v)(hu:u= .agg (us.map nI).toArray)(hv:v= .agg (bs.map nI).toArray)(h1:us.length=w)(h2:bs.length=w):Yv x S ρ o (.bool (decide (us=bs))):=fun e he F hF h' hE=>by
 subst hu hv
 have hg:∀{β:Type} {f:Unit→Sem β} {Q:β→ah→Prop},tr x.P h' ((eqGuard .eql t y z (.agg (us.map nI).toArray) (.agg (bs.map nI).toArray)).bind f) F Q=tr x.P h' (f ()) F Q:=by
  intro β f Q
  simp only[eqGuard,bind_eq,au,bind_assoc,l7,n.guard,Bool.not_false,if_true,bind_pure,Bool.not_true,Bool.false_eq_true,if_false]
 simp only[execOp,ho,he y _ hy,he z _ hz,bind_eq,au,bind_assoc,hg,binOp,X7 h1 h2]
 exact⟨rfl,rfl⟩
theorem aqB{t t' w:Nat}{y z:Operand}{u v:Value}(us bs:List Int)(ho:o.op= .binOp .neq t y z t')[EV x.P t w][n:NS x.P t](hy:ev ρ y=some u)(hz:ev ρ z=some v)(hu:u= .agg (us.map nI).toArray)(hv:v= .agg (bs.map nI).toArray)(h1:us.length=w)(h2:bs.length=w):Yv x S ρ o (.bool (!decide (us=bs))):=fun e he F hF h' hE=>by
 subst hu hv
 have hg:∀{β:Type} {f:Unit→Sem β} {Q:β→ah→Prop},tr x.P h' ((eqGuard .neq t y z (.agg (us.map nI).toArray) (.agg (bs.map nI).toArray)).bind f) F Q=tr x.P h' (f ()) F Q:=by
  intro β f Q
  simp only[eqGuard,bind_eq,au,bind_assoc,l7,n.guard,Bool.not_false,if_true,bind_pure,Bool.not_true,Bool.false_eq_true,if_false]
 simp only[execOp,ho,he y _ hy,he z _ hz,bind_eq,au,bind_assoc,hg,binOp,X7 h1 h2]
 exact⟨rfl,rfl⟩
end rules
end Go.aS

/- A scope with a label to which the text goes back; arrays of bools beside each other. Conditions: none; over any program. -/
namespace Go.aS
def gq(l:Nat)(K:Env→List Deferred→ah→Prop)(Q:Post):Post:=fun e ρ ds F=>match e with
 | .goto l'=>l'=l∧K ρ ds F
 | e=>Q e ρ ds F
section
variable{K:Env→List Deferred→ah→Prop}{Q:Post}{ρ:Env}{ds:List Deferred}{F:ah}{l:Nat}
theorem ae6(H:Q .ret ρ ds F):gq l K Q .ret ρ ds F:=H
theorem ae7(H:K ρ ds F):gq l K Q (.goto l) ρ ds F:=⟨rfl,H⟩
end
theorem W.abS{x:Cx}{Q:Post}{ρ:Env}{ds:List Deferred}{F:ah}{c R:Code}{l:Nat}(hl:findLabel c l=some (.seq .skip R)){σ:Type}(C:σ→Prop)(Ev:σ→Env)(D:σ→ah)(μ:σ→Nat)
  (round:∀s,C s→W x R (gq l (fun ρ' ds' F'=>ds'=ds∧∃s',C s'∧μ s'<μ s∧Sub (Ev s') ρ'∧Sb (D s') F') Q) (Ev s) ds (D s))
  (first:(∀ρ' F',(∃s',C s'∧Sub (Ev s') ρ'∧Sb (D s') F')→W x R (gq l (fun ρ' ds' F'=>ds'=ds∧∃s',C s'∧Sub (Ev s') ρ'∧Sb (D s') F') Q) ρ' ds F')→W x c (gq l (fun ρ' ds' F'=>ds'=ds∧∃s',C s'∧Sub (Ev s') ρ'∧Sb (D s') F') Q) ρ ds F):W x (.scope c) Q ρ ds F:=by
 have hR:∀ρ' F',(∃s',C s'∧Sub (Ev s') ρ'∧Sb (D s') F')→W x R (gq l (fun ρ' ds' F'=>ds'=ds∧∃s',C s'∧Sub (Ev s') ρ'∧Sb (D s') F') Q) ρ' ds F':=by
  rintro ρ' F' ⟨s',h1,h2,h3⟩
  refine W.env h2 (W.sb h3 ((round s' h1).mono fun e ρ ds F q=>?_))
  cases e with
  | goto l'=>exact⟨q.1,q.2.1,q.2.2.imp fun s' h=>⟨h.1,h.2.2⟩⟩
  | _=>exact q
 have first:=first hR
 clear hR
 intro b k cs Stop tmps hk M h1 h0 h2 h3 h4 h5 hc
 have hex:∀(e:Exit) (tmps:Array Value) (ds:List Deferred) (hk:Hp) (M:Nat→Prop),(∀l,e≠ .goto l)→After x.P x.main Stop b k cs e tmps ds hk M→After x.P x.main Stop b (.inScope c::k) cs e tmps ds hk M:=by
  intro e tmps ds hk M hne h
  cases e with
  | normal=>exact .idle rfl (fun _=>QM) h
  | exit id=>
   have e1:exitTo id (.inScope c::k)=exitTo id k:=by simp[exitTo]
   simp only[After,e1]at h⊢
   exact h
  | goto l=>exact absurd rfl (hne l)
  | ret=>exact h
  | panic ch=>exact h
  | outgrown=>exact h
 have hgt:gotoIn l (.inScope c::k)=some (.code (.seq .skip R):: .inScope c::k):=by simp[gotoIn,hl]
 have key:∀N s,μ s=N→C s→∀tmps hk M,dQ (Ev s) tmps→tmps.size=x.n→Sat x.h (D s) hk M→(∀e ρ' ds' F' aZ hk' M',Q e ρ' ds' F'→dQ ρ' aZ→aZ.size=x.n→Sat x.h F' hk' M'→Fr M (D s) M' F'→After x.P x.main Stop b k cs e aZ ds' hk' M')→
   Gs x.P x.main Stop (G (bW b tmps ds (.code (.seq .skip R):: .inScope c::k)) cs) hk M:=by
  intro N
  induction N using Nat.strongRecOn with
  | _ N ih=>
   intro s hN hs tmps hk M h3 h4 h5 hc
   refine .idle rfl (fun _=>Iz) (.idle rfl (fun _=>MK) (round s hs b (.inScope c::k) cs Stop tmps hk M h1 h0 h2 h3 h4 h5 fun e ρ' ds' F' aZ hk' M' q a1 a2 a3 a4=>?_))
   cases e with
   | goto l'=>
    obtain⟨rfl,rfl,s',c1,c2,c3,c4⟩:=q
    exact .inl ⟨_,hgt,ih (μ s') (hN▸c2) s' rfl c1 aZ hk' M' (a1.sub c3) a2 (a3.sb c4) fun e tC ds₂ kP ng hk₂ jr q₂ e1 e2 e3 e4=>hc e tC ds₂ kP ng hk₂ jr q₂ e1 e2 e3 (a4.trans (e4.sub fun _ y=>c4.mem _ y))⟩
   | normal=>exact hex .normal _ _ _ _ (by simp) (hc _ _ _ _ _ _ _ q a1 a2 a3 a4)
   | exit id=>exact hex (.exit id) _ _ _ _ (by simp) (hc _ _ _ _ _ _ _ q a1 a2 a3 a4)
   | ret=>exact hex .ret _ _ _ _ (by simp) (hc _ _ _ _ _ _ _ q a1 a2 a3 a4)
   | panic ch=>exact hex (.panic ch) _ _ _ _ (by simp) (hc _ _ _ _ _ _ _ q a1 a2 a3 a4)
   | outgrown=>exact hex .outgrown _ _ _ _ (by simp) (hc _ _ _ _ _ _ _ q a1 a2 a3 a4)
 refine .idle rfl (fun _=>V_) (first b (.inScope c::k) cs Stop tmps hk M h1 h0 h2 h3 h4 h5 fun e ρ' ds' F' aZ hk' M' q a1 a2 a3 a4=>?_)
 cases e with
 | goto l'=>
  obtain⟨rfl,rfl,s',c1,c3,c4⟩:=q
  exact .inl ⟨_,hgt,key _ s' rfl c1 aZ hk' M' (a1.sub c3) a2 (a3.sb c4) fun e tC ds₂ kP ng hk₂ jr q₂ e1 e2 e3 e4=>hc e tC ds₂ kP ng hk₂ jr q₂ e1 e2 e3 (a4.trans (e4.sub fun _ y=>c4.mem _ y))⟩
 | normal=>exact hex .normal _ _ _ _ (by simp) (hc _ _ _ _ _ _ _ q a1 a2 a3 a4)
 | exit id=>exact hex (.exit id) _ _ _ _ (by simp) (hc _ _ _ _ _ _ _ q a1 a2 a3 a4)
 | ret=>exact hex .ret _ _ _ _ (by simp) (hc _ _ _ _ _ _ _ q a1 a2 a3 a4)
 | panic ch=>exact hex (.panic ch) _ _ _ _ (by simp) (hc _ _ _ _ _ _ _ q a1 a2 a3 a4)
 | outgrown=>exact hex .outgrown _ _ _ _ (by simp) (hc _ _ _ _ _ _ _ q a1 a2 a3 a4)

/-! ### Arrays of bools. -/
section
variable{x:Cx}{ρ:Env}{S:ah→Prop}{o:Oper}
end
end Go.aS

/- The types of functions, as facts. Conditions: none. -/
namespace Go.Proofs.YtahkljmgmgacjaaDoor
open Go Go.aS
set_option maxRecDepth 100000
instance:TD Tryd.prog 46 (.struct #[⟨"Lo",3,0,false, "", "",0⟩,⟨"Hi",3,1,false, "", "",8⟩]):=⟨by kernel_rfl⟩
instance:TD Tryd.prog 83 (.struct #[⟨"Shelf",3,0,false, "", "",0⟩,⟨"Day",3,1,false, "", "",8⟩]):=⟨by kernel_rfl⟩
instance:SC Tryd.prog 114:=⟨by kernel_rfl⟩
instance:SC Tryd.prog 115:=⟨by kernel_rfl⟩
instance:TI Tryd.prog 115 1 8 .nilFunc #[.nilFunc]:=⟨by kernel_rfl,rfl⟩
instance:TD Tryd.prog 144 (.struct #[⟨"day",3,0,false, "", "muscovado/stove",0⟩]):=⟨by kernel_rfl⟩
instance:TD Tryd.prog 145 (.struct #[⟨"day",3,0,false, "", "muscovado/stove",0⟩]):=⟨by kernel_rfl⟩
instance:TD Tryd.prog 146 (.struct #[⟨"day",3,0,false, "", "muscovado/stove",0⟩]):=⟨by kernel_rfl⟩
instance:TD Tryd.prog 152 (.struct #[⟨"day",3,0,false, "", "muscovado/stove",0⟩]):=⟨by kernel_rfl⟩
end Go.Proofs.YtahkljmgmgacjaaDoor

/- What becomes of a cone. Conditions: none; over the given program. -/
namespace Go.aS
set_option maxRecDepth 100000
set_option maxHeartbeats 4000000
def aKf(b:Bool)(d:Int):Value:=match b with | true=>.iface vw (.agg #[I d]) | false=>.nilIface
theorem aJK(main:Side)(h:Hp)(b:Bool)(d:Int)(β:Nat)(Eg:TypeId)(zg:Nat×Nat)(hg:h 0=some (.cells #[Ur qM] Eg zg)):
  dV prog main zQ #[aKf b d,.iface NI (.pointer (some ⟨β,0,none⟩))] h [(β,.cells #[I 0] vw (0,0))] (fun v A=>v= .bool b∧Sb [(β,.cells #[I (bif b then d else 0)] vw (0,0))] A):=by
 cases b with
 | true=>exact adD main h d β _ Eg zg rfl hg
 | false=>
  have:=dV.frame (A:=[]) (B:=[(β,.cells #[I 0] vw (0,0))]) (main:=main) (h:=h) fun h' _ _=>Yc main h' (.iface NI (.pointer (some ⟨β,0,none⟩)))
  refine dV.mono this ?_
  rintro v F ⟨A',⟨rfl,hA⟩,rfl⟩
  exact⟨rfl,Sb.left .refl hA⟩
structure StF(cs:Array Value)(vs vc vh:Value)(n:Nat):Prop where
 c0:cs[0]? =some vs
 c1:cs[1]? =some vc
 c2:cs[2]? =some (I n)
 c6:cs[6]? =some vh
theorem aHC{hs:List Int}{d:Nat}(hd:d<hs.length):hs[d]? =some (htA hs d):=by
 unfold htA;rw[List.getD_eq_getElem?_getD,List.getElem?_eq_getElem hd];rfl
theorem aHD{sh:List Shf}{k:Nat}(hk:k<sh.length):sh[k]? =some (shA sh k):=by
 unfold shA;rw[List.getD_eq_getElem?_getD,List.getElem?_eq_getElem hk];rfl
theorem aIH{sh:List Shf}{cn:List Cne}{hs:List Int}(h:aCr sh cn hs)(d:Nat):0≤htA hs d∧htA hs d≤5:=by
 unfold htA;rw[List.getD_eq_getElem?_getD]
 cases e:hs[d]? with
 | none=>simp
 | some x=>exact h.hts x (List.mem_of_getElem? e)
theorem aII(main:Side)(h:Hp)(sh:List Shf)(cn:List Cne)(hs:List Int)(vs vc vh:Value)(bs:Nat)(cs:Array Value)(Es:TypeId)(zs:Nat×Nat)(hS:StF cs vs vc vh hs.length)(hbs:h bs=some (.cells cs Es zs))(h1:Sl h Shf.row vs sh)(h2:Sl h Cne.row vc cn)(h3:Sl h fH vh hs)(hok:aCr sh cn hs)
  (i k d0 d:Nat) (c:Cne) (hc:cn[i]? =some c) (hk:k<sh.length) (hd0:d0≤d) (hd:d<hs.length):Pu prog main aC4 #[bI bs,I i,.agg #[I k,I d0],I d] h (aKf (aDG c (shA sh k).li hs d0 d) d):=by
 obtain⟨q1,q2,q3,q4,q5,q6,q7,q8⟩:=hok.cne c (List.mem_of_getElem? hc)
 have hsk:=aHD hk
 have hso:=hok.Ij _ (List.mem_of_getElem? hsk)
 have hh:=aIH hok
 have hh0:=hh d
 have hh1:=hh (d-1)
 have hc0:=hS.c0
 have hc1:=hS.c1
 have hc6:=hS.c6
 have hd4:=hok.d4
 have hs3:=hok.s3
 have hc3:=hok.c3
 have hil:i<cn.length:=by
  rcases Nat.lt_or_ge i cn.length with h' | h'
  ·exact h'
  ·rw[List.getElem?_eq_none h']at hc;cases hc
 obtain⟨a1,cap1,rfl⟩:=h1.dA
 obtain⟨a2,cap2,rfl⟩:=h2.dA
 obtain⟨a3,cap3,rfl⟩:=h3.dA
 obtain⟨b1,off1,c1,E1,fz1,e1,hb1,hx1,hy1,hw1⟩:=h1.at hsk
 obtain⟨b2,off2,c2,E2,fz2,e2,hb2,hx2,hy2,hw2⟩:=h2.at hc
 obtain⟨b3,aJe,c3,E3,fz3,e3,hb3,hx3,hy3,hw3⟩:=h3.at (aHC hd)
 obtain⟨b4,aLl,c4,E4,fz4,e4,hb4,hx4,hy4,hw4⟩:=h3.at (aHC (show d-1<hs.length by omega))
 cases e1
 cases e2
 cases e3
 cases e4
 have QL:c1[off1+k*2+0]? =some (I (shA sh k).li):=hw1 0 (by decide)
 have hcx:c2.extract (off2+i*4) (off2+i*4+4)= #[I c.we,I c.co,I c.ju,I c.mo]:=hx2
 have hhd:c3[aJe+d*1]? =some (I (htA hs d)):=by have:=hw3 0 (by decide);simpa[fH]using this
 have hhe:c4[aJe+(d-1)*1]? =some (I (htA hs (d-1))):=by have:=hw4 0 (by decide);simpa[fH]using this
 clear hx1 hx2 hx3 hx4 hw1 hw2 hw3 hw4
 have e43:=hb3.symm.trans hb4
 simp only[Option.some.injEq,Obj.cells.injEq]at e43
 obtain⟨rfl,rfl,rfl⟩:=e43
 clear hb4
 refine dV.aG aEh rfl (by show 4≤81;decide) [(0,bI bs),(1,I i),(2,.agg #[I k,I d0]),(3,I d)] ⟨rfl,rfl,rfl,rfl,trivial⟩ ?_
 refine W.seq<|W.region rfl ?_
 refine Ops.box (fun yC=>?_)
 refine agb rfl rfl rfl<|pq<|W.seq ?_
 refine W.rE (n:=30) rfl ?_
 refine xq 0 (aN rfl rfl) rfl ?_
 first | refine xq 1 (bg rfl rfl) rfl ?_ | refine xq 1 (aT rfl rfl) rfl ?_
 refine xq 2 (ay rfl rfl) rfl ?_
 refine xq 3 (ay rfl rfl) rfl ?_
 refine xq 4 (iQ rfl rfl) rfl ?_
 refine xq 5 (aN rfl rfl) rfl ?_
 first | refine xq 6 (G_ rfl rfl rfl) rfl ?_ | refine xq 6 (o_ rfl rfl rfl) rfl ?_
 first | refine xq 7 (Bf rfl rfl) rfl ?_ | refine xq 7 (zi rfl rfl) rfl ?_ | refine xq 7 (ady rfl rfl) rfl ?_
 refine xq 8 (aN rfl rfl) rfl ?_
 first | refine xq 9 (bg rfl rfl) rfl ?_ | refine xq 9 (aT rfl rfl) rfl ?_
 refine xq 10 (ay rfl rfl) rfl ?_
 refine xq 11 (iQ rfl rfl) rfl ?_
 refine xq 12 (aN rfl rfl) rfl ?_
 first | refine xq 13 (G_ rfl rfl rfl) rfl ?_ | refine xq 13 (o_ rfl rfl rfl) rfl ?_
 refine xq 14 (iQ rfl rfl) rfl ?_
 refine xq 15 (aN rfl rfl) rfl ?_
 first | refine xq 16 (bg rfl rfl) rfl ?_ | refine xq 16 (aT rfl rfl) rfl ?_
 refine xq 17 (ay rfl rfl) rfl ?_
 refine xq 18 (ay rfl rfl) rfl ?_
 refine xq 19 (iQ rfl rfl) rfl ?_
 refine xq 20 (ay rfl rfl) rfl ?_
 refine xq 21 (iQ rfl rfl) rfl ?_
 first | refine xq 22 (G_ rfl rfl rfl) rfl ?_ | refine xq 22 (o_ rfl rfl rfl) rfl ?_
 refine xq 23 (ay rfl rfl) rfl ?_
 refine xq 24 (iQ rfl rfl) rfl ?_
 first | refine xq 25 (Zi rfl rfl rfl) rfl ?_ | refine xq 25 (MZ rfl rfl rfl) rfl ?_
 refine ae (i:=26) rfl an rfl rfl (eN rfl (fun Uw=>?_))
 refine⟨.inr (by first | exact Keeps.refl | exact Keeps.nil | ((repeat(first | exact fun _ h=>h | apply Keeps.cons | apply Keeps.app)) <;>fail) | (repeat(first | exact Keeps.nil | refine Keeps.one (by repeat(first | exact List.Mem.head _ | apply List.Mem.tail)) ?_))),?_⟩
 first | refine ae (i:=27) rfl an rfl rfl (eSW rfl rfl rfl ?_) | refine ae (i:=27) rfl an rfl rfl (eSA rfl rfl rfl ?_)
 refine⟨.inr (by first | exact Keeps.refl | exact Keeps.nil | ((repeat(first | exact fun _ h=>h | apply Keeps.cons | apply Keeps.app)) <;>fail) | (repeat(first | exact Keeps.nil | refine Keeps.one (by repeat(first | exact List.Mem.head _ | apply List.Mem.tail)) ?_))),?_⟩
 refine xq 28 (jS rfl rfl) rfl ?_
 refine xq 29 (jS rfl rfl) rfl ?_
 refine az ?_
 refine aA<|W.seq<|W.seq<|W.region rfl<|qm rfl rfl rfl ?_
 refine agY rfl ?_
 refine agX rfl ?_
 refine agW (rC rfl rfl rfl) rfl ?_
 refine pq ?_
 refine W.bC rfl (fun c41=>?_) (fun c41=>?_)
 ·refine W.rE (n:=23) rfl ?_
  refine xq 0 (aN rfl rfl) rfl ?_
  first | refine xq 1 (bg rfl rfl) rfl ?_ | refine xq 1 (aT rfl rfl) rfl ?_
  refine xq 2 (ay rfl rfl) rfl ?_
  refine xq 3 (iQ rfl rfl) rfl ?_
  refine xq 4 (aN rfl rfl) rfl ?_
  refine aqe (i:=5) (acL rfl rfl rfl) (show I _=I ((d-1:Nat):Int) by congr 1;omega) rfl an rfl rfl ?_
  first | refine xq 6 (G_ rfl rfl rfl) rfl ?_ | refine xq 6 (o_ rfl rfl rfl) rfl ?_
  refine xq 7 (iQ rfl rfl) rfl ?_
  refine xq 8 (aN rfl rfl) rfl ?_
  first | refine xq 9 (bg rfl rfl) rfl ?_ | refine xq 9 (aT rfl rfl) rfl ?_
  refine xq 10 (ay rfl rfl) rfl ?_
  refine xq 11 (ay rfl rfl) rfl ?_
  refine xq 12 (iQ rfl rfl) rfl ?_
  refine xq 13 (ay rfl rfl) rfl ?_
  refine xq 14 (iQ rfl rfl) rfl ?_
  first | refine xq 15 (G_ rfl rfl rfl) rfl ?_ | refine xq 15 (o_ rfl rfl rfl) rfl ?_
  refine xq 16 (ay rfl rfl) rfl ?_
  refine xq 17 (iQ rfl rfl) rfl ?_
  first | refine xq 18 (Zi rfl rfl rfl) rfl ?_ | refine xq 18 (MZ rfl rfl rfl) rfl ?_
  refine xq 19 (ay rfl rfl) rfl ?_
  refine xq 20 (iQ rfl rfl) rfl ?_
  first | refine xq 21 (Zi rfl rfl rfl) rfl ?_ | refine xq 21 (MZ rfl rfl rfl) rfl ?_
  refine xq 22 (jS rfl rfl) rfl ?_
  refine az ?_
  refine aA<|W.seq<|W.block<|W.seq<|W.block<|W.seq<|W.block<|W.seq<|W.seq<|W.region rfl ?_
  refine qm rfl rfl rfl ?_
  refine agY rfl ?_
  refine agX rfl ?_
  refine agW (nD rfl rfl rfl) rfl ?_
  refine agb rfl rfl rfl<|pq ?_
  refine W.bC rfl (fun c64=>?_) (fun c64=>?_)
  ·refine W.exit<|bP<|gG<|aA<|W.region rfl ?_
   refine agY rfl ?_
   refine agX rfl ?_
   refine agb rfl rfl rfl<|Ops.nil<|dI<|aA<|W.seq<|W.region rfl<|qm rfl rfl rfl ?_
   refine agY rfl ?_
   refine agX rfl ?_
   refine agW (Tm rfl rfl rfl) rfl ?_
   refine agb rfl rfl rfl<|pq<|W.exit<|gG<|aA<|W.seq<|W.seq<|W.region rfl<|qm rfl rfl rfl ?_
   refine qm rfl rfl rfl ?_
   refine agW (rC rfl rfl rfl) rfl ?_
   refine pq ?_
   refine W.bC rfl (fun c77=>?_) (fun c77=>?_)
   ·refine W.seq<|W.region rfl<|qm rfl rfl rfl ?_
    refine agW (eH rfl rfl rfl) rfl ?_
    first | refine agW (ZK rfl rfl) rfl ?_ | refine agW (yfc rfl rfl) rfl ?_
    refine agb rfl rfl rfl<|pq<|W.ret<|aY ?_
    refine uZ ?_
    have e:aDG c (shA sh k).li hs d0 d=true:=by
     simp only[aDG,decide_eq_true_eq]
     first | rw[if_pos (by omega)] | (rw[if_neg (by omega)];first | rw[if_pos (by omega)] | rw[if_neg (by omega)])
     omega
    rw[e];rfl
   ·refine W.skip<|aA<|W.seq<|W.region rfl<|agb rfl rfl rfl<|pq<|W.ret ?_
    refine uZ ?_
    have e:aDG c (shA sh k).li hs d0 d=false:=by
     simp only[aDG,decide_eq_false_iff_not]
     first | rw[if_pos (by omega)] | (rw[if_neg (by omega)];first | rw[if_pos (by omega)] | rw[if_neg (by omega)])
     omega
    rw[e];rfl
  ·refine W.skip<|aA<|W.exit<|Tt<|bP<|gG<|aA<|W.seq<|W.region rfl<|qm rfl rfl rfl ?_
   refine agY rfl ?_
   refine agX rfl ?_
   refine agW (Tm rfl rfl rfl) rfl ?_
   refine agb rfl rfl rfl<|pq<|W.exit<|gG<|aA<|W.seq<|W.seq<|W.region rfl<|qm rfl rfl rfl ?_
   refine qm rfl rfl rfl ?_
   refine agW (rC rfl rfl rfl) rfl ?_
   refine pq ?_
   refine W.bC rfl (fun c77=>?_) (fun c77=>?_)
   ·refine W.seq<|W.region rfl<|qm rfl rfl rfl ?_
    refine agW (eH rfl rfl rfl) rfl ?_
    first | refine agW (ZK rfl rfl) rfl ?_ | refine agW (yfc rfl rfl) rfl ?_
    refine agb rfl rfl rfl<|pq<|W.ret<|aY ?_
    refine uZ ?_
    have e:aDG c (shA sh k).li hs d0 d=true:=by
     simp only[aDG,decide_eq_true_eq]
     first | rw[if_pos (by omega)] | (rw[if_neg (by omega)];first | rw[if_pos (by omega)] | rw[if_neg (by omega)])
     omega
    rw[e];rfl
   ·refine W.skip<|aA<|W.seq<|W.region rfl<|agb rfl rfl rfl<|pq<|W.ret ?_
    refine uZ ?_
    have e:aDG c (shA sh k).li hs d0 d=false:=by
     simp only[aDG,decide_eq_false_iff_not]
     first | rw[if_pos (by omega)] | (rw[if_neg (by omega)];first | rw[if_pos (by omega)] | rw[if_neg (by omega)])
     omega
    rw[e];rfl
 ·refine W.skip<|aA<|W.seq<|W.block<|W.seq<|W.block<|W.seq<|W.block<|W.seq<|W.seq ?_
  refine W.region rfl<|qm rfl rfl rfl ?_
  refine agY rfl ?_
  refine agX rfl ?_
  refine agW (nD rfl rfl rfl) rfl ?_
  refine agb rfl rfl rfl<|pq ?_
  refine W.bC rfl (fun c64=>?_) (fun c64=>?_)
  ·refine W.exit<|bP<|gG<|aA<|W.region rfl ?_
   refine agY rfl ?_
   refine agX rfl ?_
   refine agb rfl rfl rfl<|Ops.nil<|dI<|aA<|W.seq<|W.region rfl<|qm rfl rfl rfl ?_
   refine agY rfl ?_
   refine agX rfl ?_
   refine agW (Tm rfl rfl rfl) rfl ?_
   refine agb rfl rfl rfl<|pq<|W.exit<|gG<|aA<|W.seq<|W.seq<|W.region rfl<|qm rfl rfl rfl ?_
   refine qm rfl rfl rfl ?_
   refine agW (rC rfl rfl rfl) rfl ?_
   refine pq ?_
   refine W.bC rfl (fun c77=>?_) (fun c77=>?_)
   ·refine W.seq<|W.region rfl<|qm rfl rfl rfl ?_
    refine agW (eH rfl rfl rfl) rfl ?_
    first | refine agW (ZK rfl rfl) rfl ?_ | refine agW (yfc rfl rfl) rfl ?_
    refine agb rfl rfl rfl<|pq<|W.ret<|aY ?_
    refine uZ ?_
    have e:aDG c (shA sh k).li hs d0 d=true:=by
     simp only[aDG,decide_eq_true_eq]
     first | rw[if_pos (by omega)] | (rw[if_neg (by omega)];first | rw[if_pos (by omega)] | rw[if_neg (by omega)])
     omega
    rw[e];rfl
   ·refine W.skip<|aA<|W.seq<|W.region rfl<|agb rfl rfl rfl<|pq<|W.ret ?_
    refine uZ ?_
    have e:aDG c (shA sh k).li hs d0 d=false:=by
     simp only[aDG,decide_eq_false_iff_not]
     first | rw[if_pos (by omega)] | (rw[if_neg (by omega)];first | rw[if_pos (by omega)] | rw[if_neg (by omega)])
     omega
    rw[e];rfl
  ·refine W.skip<|aA<|W.exit<|Tt<|bP<|gG<|aA<|W.seq<|W.region rfl<|qm rfl rfl rfl ?_
   refine agY rfl ?_
   refine agX rfl ?_
   refine agW (Tm rfl rfl rfl) rfl ?_
   refine agb rfl rfl rfl<|pq<|W.exit<|gG<|aA<|W.seq<|W.seq<|W.region rfl<|qm rfl rfl rfl ?_
   refine qm rfl rfl rfl ?_
   refine agW (rC rfl rfl rfl) rfl ?_
   refine pq ?_
   refine W.bC rfl (fun c77=>?_) (fun c77=>?_)
   ·refine W.seq<|W.region rfl<|qm rfl rfl rfl ?_
    refine agW (eH rfl rfl rfl) rfl ?_
    first | refine agW (ZK rfl rfl) rfl ?_ | refine agW (yfc rfl rfl) rfl ?_
    refine agb rfl rfl rfl<|pq<|W.ret<|aY ?_
    refine uZ ?_
    have e:aDG c (shA sh k).li hs d0 d=true:=by
     simp only[aDG,decide_eq_true_eq]
     first | rw[if_pos (by omega)] | (rw[if_neg (by omega)];first | rw[if_pos (by omega)] | rw[if_neg (by omega)])
     omega
    rw[e];rfl
   ·refine W.skip<|aA<|W.seq<|W.region rfl<|agb rfl rfl rfl<|pq<|W.ret ?_
    refine uZ ?_
    have e:aDG c (shA sh k).li hs d0 d=false:=by
     simp only[aDG,decide_eq_false_iff_not]
     first | rw[if_pos (by omega)] | (rw[if_neg (by omega)];first | rw[if_pos (by omega)] | rw[if_neg (by omega)])
     omega
    rw[e];rfl

noncomputable def aGw.val:aGw→Value
 | .crk d=>.iface aFI (.agg #[I d])
 | .dry d=>.iface aEi (.agg #[I d])
 | .wet d=>.iface aG4 (.agg #[I d])
theorem aHU(main:Side)(h:Hp)(sh:List Shf)(cn:List Cne)(hs:List Int)(vs vc vh:Value)(bs:Nat)(cs:Array Value)(Es Eg:TypeId)(zs zg:Nat×Nat)(hS:StF cs vs vc vh hs.length)(hbs:h bs=some (.cells cs Es zs))(h1:Sl h Shf.row vs sh)(h2:Sl h Cne.row vc cn)(h3:Sl h fH vh hs)(hok:aCr sh cn hs)(hg:h 0=some (.cells #[Ur qM] Eg zg))
  (i k d0:Nat) (c:Cne) (hc:cn[i]? =some c) (hk:k<sh.length) (hd0:d0<hs.length):Pu prog main aDh #[bI bs,I i,.agg #[I k,I d0]] h (aGa sh c hs k d0).val:=by
 have hsk:=aHD hk
 have hso:=hok.Ij _ (List.mem_of_getElem? hsk)
 have hco:=hok.cne c (List.mem_of_getElem? hc)
 have hh:=aIH hok
 have hc0:=hS.c0
 have hc1:=hS.c1
 have hc2:=hS.c2
 have hc6:=hS.c6
 have hd4:=hok.d4
 have hs3:=hok.s3
 have hc3:=hok.c3
 have hil:i<cn.length:=by
  rcases Nat.lt_or_ge i cn.length with h' | h'
  ·exact h'
  ·rw[List.getElem?_eq_none h']at hc;cases hc
 have k1:=h1
 have k2:=h2
 have k3:=h3
 obtain⟨a1,cap1,rfl⟩:=h1.dA
 obtain⟨a2,cap2,rfl⟩:=h2.dA
 obtain⟨a3,cap3,rfl⟩:=h3.dA
 obtain⟨b1,off1,c1,E1,fz1,e1,hb1,hx1,hy1,hw1⟩:=h1.at hsk
 obtain⟨b2,off2,c2,E2,fz2,e2,hb2,hx2,hy2,hw2⟩:=h2.at hc
 cases e1
 cases e2
 have QL:c1[off1+k*2+0]? =some (I (shA sh k).li):=hw1 0 (by decide)
 have hwe:c2[off2+i*4+0]? =some (I c.we):=hw2 0 (by decide)
 clear hx1 hx2 hw1 hw2
 refine dV.aG aEx rfl (by show 3≤74;decide) [(0,bI bs),(1,I i),(2,.agg #[I k,I d0])] ⟨rfl,rfl,rfl,trivial⟩ ?_
 refine W.seq<|W.region rfl ?_
 refine Ops.box (fun mZ=>?_)
 refine agb rfl rfl rfl<|pq ?_
 refine W.abS (l:=0) rfl (σ:=Nat×Int×Nat) (fun s=>d0≤s.1∧s.1<hs.length∧0≤s.2.1∧s.2.1≤8*s.1∧aFx c (shA sh k).li hs d0 (hs.length-s.1) s.1 s.2.1=aGa sh c hs k d0) (fun s=>[(7,I s.2.1),(8,I s.1),(5,bI mZ),(9,bI s.2.2),(0,bI bs),(1,I i)])
  (fun s=>[(s.2.2,.cells #[I 0] vw (0,0)),(mZ,.cells #[I k,I d0] aBC (0,0))]) (fun s=>hs.length-s.1) ?_ ?_
 ·rintro⟨d,s,Uw⟩ hC
  replace hC:d0≤d∧d<hs.length∧0≤s∧s≤8*d∧aFx c (shA sh k).li hs d0 (hs.length-d) d s=aGa sh c hs k d0:=hC
  obtain⟨q1,q2,q3,q4,q5⟩:=hC
  refine W.env (ρ':=[(7,I s),(8,I d),(5,bI mZ),(9,bI Uw),(0,bI bs),(1,I i)]) ⟨rfl,rfl,rfl,rfl,rfl,rfl,trivial⟩ ?_
  refine W.sb (F':=[(Uw,.cells #[I 0] vw (0,0)),(mZ,.cells #[I k,I d0] aBC (0,0))]) .refl ?_
  obtain⟨m,hm⟩:∃m,hs.length-d=m+1:=⟨hs.length-d-1,by omega⟩
  rw[hm,aFx]at q5
  have hhd:=hh d
  obtain⟨b3,aJe,c3,E3,fz3,e3,hb3,hx3,hy3,hw3⟩:=h3.at (aHC q2)
  cases e3
  have hht:c3[aJe+d*1]? =some (I (htA hs d)):=by have:=hw3 0 (by decide);simpa[fH]using this
  clear hx3 hw3
  refine W.seq<|W.seq<|W.region rfl<|qm rfl rfl rfl<|qm rfl rfl rfl ?_
  first | refine ag2 rfl ?_ | refine agW (ady rfl rfl) rfl ?_
  refine qm rfl rfl rfl ?_
  refine cp (fun h' hE hL=>aII _ h' sh cn hs _ _ _ bs cs _ _ hS (hE.1 _ _ hbs) (k1.ext hE) (k2.ext hE) (k3.ext hE) hok i k d0 d c hc hk q1 q2) ?_
  first | refine agW (ZK rfl rfl) rfl ?_ | refine agW (yfc rfl rfl) rfl ?_
  refine cg (A:=[(Uw,.cells #[I 0] vw (0,0))]) .head (fun h' hE hL=>aJK _ h' (aDG c (shA sh k).li hs d0 d) d Uw Eg zg (hE.1 _ _ hg)) (fun v A' hv=>?_)
  obtain⟨rfl,hsb⟩:=hv
  refine Ops.sb (F':=[(Uw,.cells #[I (bif aDG c (shA sh k).li hs d0 d then(d:Int)else 0)] vw (0,0)),(mZ,.cells #[I k,I d0] aBC (0,0))]) (hsb.app .refl) ?_
  refine pq ?_
  refine W.cond rfl (fun c18=>?_) (fun c18=>?_)
  ·refine W.seq<|W.region rfl ?_
   refine agY rfl ?_
   refine agX rfl ?_
   refine agW (eH rfl rfl rfl) rfl ?_
   first | refine agW (ZK rfl rfl) rfl ?_ | refine agW (yfc rfl rfl) rfl ?_
   refine agb rfl rfl rfl<|pq<|W.ret<|aY ?_
   refine ae6 ?_
   rw[if_pos c18]at q5
   refine uZ ?_
   rw[←q5,c18];rfl
  ·refine W.skip<|aA<|W.seq<|W.seq ?_
   refine W.rE (n:=21) rfl ?_
   refine xq 0 (aN rfl rfl) rfl ?_
   refine xq 1 (aN rfl rfl) rfl ?_
   first | refine xq 2 (bg rfl rfl) rfl ?_ | refine xq 2 (aT rfl rfl) rfl ?_
   refine xq 3 (ay rfl rfl) rfl ?_
   refine xq 4 (iQ rfl rfl) rfl ?_
   refine xq 5 (aN rfl rfl) rfl ?_
   first | refine xq 6 (G_ rfl rfl rfl) rfl ?_ | refine xq 6 (o_ rfl rfl rfl) rfl ?_
   refine xq 7 (iQ rfl rfl) rfl ?_
   refine xq 8 (aN rfl rfl) rfl ?_
   first | refine xq 9 (bg rfl rfl) rfl ?_ | refine xq 9 (aT rfl rfl) rfl ?_
   refine xq 10 (ay rfl rfl) rfl ?_
   refine xq 11 (ay rfl rfl) rfl ?_
   refine xq 12 (iQ rfl rfl) rfl ?_
   refine xq 13 (ay rfl rfl) rfl ?_
   refine xq 14 (iQ rfl rfl) rfl ?_
   first | refine xq 15 (G_ rfl rfl rfl) rfl ?_ | refine xq 15 (o_ rfl rfl rfl) rfl ?_
   refine xq 16 (ay rfl rfl) rfl ?_
   refine xq 17 (iQ rfl rfl) rfl ?_
   first | refine xq 18 (Zi rfl rfl rfl) rfl ?_ | refine xq 18 (MZ rfl rfl rfl) rfl ?_
   first | refine xq 19 (Zi rfl rfl rfl) rfl ?_ | refine xq 19 (MZ rfl rfl rfl) rfl ?_
   refine xq 20 (jS rfl rfl) rfl ?_
   refine az ?_
   refine aA<|W.seq<|W.region rfl<|qm rfl rfl rfl<|qm rfl rfl rfl ?_
   refine ag4 rfl ?_
   refine agY rfl ?_
   refine agY rfl ?_
   refine agX rfl ?_
   refine qm rfl rfl rfl ?_
   refine ag3 rfl ?_
   refine agY rfl ?_
   refine agX rfl ?_
   refine agW (IJ rfl rfl rfl) rfl ?_
   refine pq ?_
   refine W.bC rfl (fun c53=>?_) (fun c53=>?_)
   ·refine W.seq<|W.region rfl<|qm rfl rfl rfl ?_
    refine agW (eH rfl rfl rfl) rfl ?_
    first | refine agW (ZK rfl rfl) rfl ?_ | refine agW (yfc rfl rfl) rfl ?_
    refine agb rfl rfl rfl<|pq<|W.ret<|aY ?_
    refine ae6 ?_
    rw[if_neg (by simp[c18]),if_pos (by omega)]at q5
    refine uZ ?_
    rw[←q5];rfl
   ·refine W.skip<|aA<|W.seq<|W.seq<|W.region rfl<|qm rfl rfl rfl ?_
    refine ag1 rfl ?_
    refine agb rfl rfl rfl<|pq<|W.seq<|W.region rfl<|qm rfl rfl rfl<|qm rfl rfl rfl ?_
    refine ag4 rfl ?_
    refine agY rfl ?_
    refine agY rfl ?_
    refine agX rfl ?_
    refine agW (fO rfl rfl rfl) rfl ?_
    refine pq ?_
    refine W.bC rfl (fun c65=>?_) (fun c65=>?_)
    ·refine W.goto ?_
     refine WC ?_
     refine ae7 ?_
     rw[if_neg (by simp[c18]),if_neg (by omega)]at q5
     have e9:(bif aDG c (shA sh k).li hs d0 d then(d:Int)else 0)=0:=by rw[c18];rfl
     rw[e9]
     exact⟨rfl,(d+1,s+(htA hs d+(shA sh k).li),Uw),⟨by simp only;omega,by simp only;omega,by simp only;omega,by simp only;omega,by simp only;rw[show hs.length- (d+1)=m by omega];exact q5⟩,by simp only;omega,⟨rfl,rfl,rfl,rfl,rfl,rfl,trivial⟩,.refl⟩
    ·refine W.skip<|aA<|W.seq<|W.region rfl<|qm rfl rfl rfl ?_
     refine ag4 rfl ?_
     refine agY rfl ?_
     refine agY rfl ?_
     refine agX rfl ?_
     refine ag5 rfl ?_
     refine agW (eH rfl rfl rfl) rfl ?_
     first | refine agW (ZK rfl rfl) rfl ?_ | refine agW (yfc rfl rfl) rfl ?_
     refine agb rfl rfl rfl<|pq<|W.ret ?_
     refine ae6 ?_
     rw[if_neg (by simp[c18]),if_neg (by omega)]at q5
     obtain rfl:m=0:=by omega
     refine uZ ?_
     rw[←q5]
     show Value.iface _ (.agg #[I ((hs.length:Int)-1)])=Value.iface _ (.agg #[I ((d+1-1:Nat):Int)])
     rw[show((d+1-1:Nat):Int)=(hs.length:Int)-1 by omega]
 ·intro hR
  refine W.seq ?_
  refine W.rE (n:=4) rfl ?_
  refine xq 0 (ay rfl rfl) rfl ?_
  refine xq 1 (iQ rfl rfl) rfl ?_
  refine xq 2 (jS rfl rfl) rfl ?_
  refine xq 3 (jS rfl rfl) rfl ?_
  refine az ?_
  refine aA<|W.seq<|W.region rfl ?_
  refine Ops.new (fun Uw=>?_)
  refine pq<|W.seq ?_
  refine W.label ?_
  refine aA ?_
  refine hR _ _ ⟨(d0,0,Uw),⟨Nat.le_refl _,hd0,Int.le_refl _,by simp only;omega,rfl⟩,⟨rfl,rfl,rfl,rfl,rfl,rfl,trivial⟩,.refl⟩
end Go.aS

/- Who is on a shelf; a cone is put in; room. Conditions: none; over the given program. -/
namespace Go.aS
set_option maxRecDepth 100000
set_option maxHeartbeats 4000000
theorem aIJ{a b:Int}{c:Bool}(h:((a==b)==c)=true):decide (a=b)=c:=by
 have:(a==b)=c:=by simpa using h
 rw[←this];rfl
def adw(a k:Nat):Bool:=(bits .and .u8 ((a:Int).fdiv (2 ^ (min (k:Int).toNat IntKind.u8.bits))) 1==1)==a.testBit k
theorem XY:((List.range 8).all fun a=>(List.range 3).all fun k=>adw a k)=true:=by kernel_rfl
theorem Z_{a k:Nat}(ha:a<8)(hk:k<3):decide (bits .and .u8 ((a:Int).fdiv (2 ^ (min (k:Int).toNat IntKind.u8.bits))) 1=1)=a.testBit k:=by
 have h:=XY
 rw[List.all_eq_true]at h
 have h:=h a (List.mem_range.2 ha)
 rw[List.all_eq_true]at h
 exact aIJ (h k (List.mem_range.2 hk))
def orT(a k:Nat):Bool:=bits .or .u8 (a:Int) (IntKind.u8.wrap (1*2 ^ (min (k:Int).toNat IntKind.u8.bits)))==((a||| 2 ^ k:Nat):Int)
theorem Z8:((List.range 3).all fun k=>(List.range 8).all fun a=>orT a k)=true:=by kernel_rfl
theorem or_bit{a k:Nat}(hk:k<3)(ha:a<8):bits .or .u8 (a:Int) (IntKind.u8.wrap (1*2 ^ (min (k:Int).toNat IntKind.u8.bits)))=((a||| 2 ^ k:Nat):Int):=by
 have h:=Z8
 rw[List.all_eq_true]at h
 have h:=h k (List.mem_range.2 hk)
 rw[List.all_eq_true]at h
 have h:=h a (List.mem_range.2 ha)
 simpa only[orT,beq_iff_eq]using h

theorem aHV(main:Side)(h:Hp)(m k:Nat)(hm:m<8)(hk:k<3):Pu prog main aB0 #[B8 m,I k] h (.bool (m.testBit k)):=by
 refine dV.aG aEV rfl (by show 2≤10;decide) [(0,B8 m),(1,I k)] ⟨rfl,rfl,trivial⟩ ?_
 refine W.seq<|W.region rfl<|agb rfl rfl rfl<|pq<|W.seq<|W.region rfl<|qm rfl rfl rfl<|qm rfl rfl rfl ?_
 refine agW (Gw rfl rfl rfl (by omega)) rfl ?_
 refine agW (aaK rfl rfl rfl) rfl ?_
 refine agW (nD rfl rfl rfl) rfl ?_
 refine agb rfl rfl rfl<|pq<|W.ret ?_
 refine uZ ?_
 exact congrArg Value.bool (Z_ hm hk)
theorem aIK(main:Side)(h:Hp)(m k:Nat)(hm:m<8)(hk:k<3):Pu prog main aDi #[B8 m,I k] h (B8 (m||| 2 ^ k)):=by
 refine dV.aG aEy rfl (by show 2≤9;decide) [(0,B8 m),(1,I k)] ⟨rfl,rfl,trivial⟩ ?_
 refine W.seq<|W.region rfl<|agb rfl rfl rfl<|pq<|W.seq<|W.region rfl<|qm rfl rfl rfl<|qm rfl rfl rfl ?_
 refine agW (Wx rfl rfl rfl (by omega)) rfl ?_
 refine agW (acI rfl rfl rfl) rfl ?_
 refine agb rfl rfl rfl<|pq<|W.ret ?_
 refine uZ ?_
 exact congrArg (Value.int .u8) (or_bit hk hm)
theorem aHg{m k:Nat}:((List.range (k+1)).filter fun n=>m.testBit n).map (fun(i:Nat)=>(i:Int))=(((List.range k).filter fun n=>m.testBit n).map fun(i:Nat)=>(i:Int))++(if m.testBit k then[(k:Int)]else[]):=by
 rw[List.range_succ,List.filter_append,List.map_append]
 by_cases h:m.testBit k <;>simp[h]
theorem aHh(main:Side)(h:Hp)(m:Nat)(hm:m<8):dV prog main aDd #[B8 m] h [] (fun v A=>Os dL fH v (aJI m) A):=by
 refine dV.aG aEt rfl (by show 1≤20;decide) [(0,B8 m)] ⟨rfl,trivial⟩ ?_
 refine W.seq<|W.region rfl<|agb rfl rfl rfl<|pq<|W.seq<|W.region rfl<|agb rfl rfl rfl<|pq ?_
 refine W.seq<|W.region rfl<|qm rfl rfl rfl ?_
 refine agW (y7 rfl rfl rfl) rfl ?_
 refine agb rfl rfl rfl<|pq<|W.seq<|W.seq<|W.region rfl<|qm rfl rfl rfl<|pq<|W.block ?_
 refine W.Js (fun(k:Nat) (v:Value) (S:ah)=>k≤3∧Os dL fH v (((List.range k).filter fun n=>m.testBit n).map fun(i:Nat)=>(i:Int)) S) (fun k v S=>[(8,I k),(3,v),(4,.func (.func aB0) #[B8 m] #[])]) (fun k v S=>S) (fun k _ _=>3-k) 0 (.slice none 0 0) [] ⟨Nat.zero_le _,.nil .nil⟩ ⟨rfl,rfl,rfl,trivial⟩ .refl ?_
 rintro k v S ⟨hk,hS⟩
 refine W.seq<|W.region rfl ?_
 refine agW (fO rfl rfl rfl) rfl ?_
 refine pq<|W.seq ?_
 refine W.bC rfl (fun c9=>?_) (fun c9=>?_)
 ·have hk4:k<3:=by omega
  have hlen:(((List.range k).filter fun n=>m.testBit n).map fun(i:Nat)=>(i:Int)).length≤3:=by rw[List.length_map];exact Nat.le_trans (List.length_filter_le ..) (by simp;omega)
  refine W.skip<|aA<|W.seq<|W.block<|W.seq<|W.region rfl<|qm rfl rfl rfl<|agb rfl rfl rfl<|pq ?_
  refine W.seq<|W.region rfl<|qm rfl rfl rfl<|qm rfl rfl rfl ?_
  refine cv (u:=.bool (m.testBit k)) (fun h' hE hL=>gZ.zh (f:=aB0) (fi:=[B8 m]) (args:=[I k]) (ca:=[]) (aHV _ h' m k hm hk4)) ?_
  refine pq ?_
  refine W.cond rfl (fun c13=>?_) (fun c13=>?_)
  ·refine W.region rfl<|qm rfl rfl rfl<|qm rfl rfl rfl ?_
   refine Ops.NK (cs:= #[I k]) (fun Ye=>?_) rfl
   refine oe rfl wn rfl rfl (iW (row:=fH) (l':=[(k:Int)]) rfl rfl rfl hS (.tail .all) (fun h2 _ hl=>Sl.mk (hl Ye _ (.head _)) rfl (Part.all [I k])) (by rw[List.length_map]at hlen;simp;omega) (by decide) rfl (fun v' S' hS'=>?_))
   refine agb rfl rfl rfl<|Ops.nil<|dI<|aA<|W.region rfl ?_
   refine ag1 rfl ?_
   refine qm rfl rfl rfl<|pq ?_
   exact⟨rfl,k+1,v',S',⟨by omega,by rw[aHg,if_pos c13];exact hS'⟩,by omega,⟨rfl,rfl,rfl,trivial⟩,.skip rfl .refl⟩
  ·refine W.skip<|dI<|aA<|W.region rfl ?_
   refine ag1 rfl ?_
   refine qm rfl rfl rfl<|pq ?_
   exact⟨rfl,k+1,v,S,⟨by omega,by rw[aHg,if_neg (by simp[c13]),List.append_nil];exact hS⟩,by omega,⟨rfl,rfl,rfl,trivial⟩,.refl⟩
 ·refine W.exit<|bP<|bP<|gG<|aA<|W.seq<|W.region rfl<|qm rfl rfl rfl<|agb rfl rfl rfl<|Ops.nil ?_
  refine aA<|W.ret ?_
  obtain rfl:k=3:=by omega
  exact mg (vs:=[v]) hS
theorem aGZ(main:Side)(h:Hp)(e:Int):Pu prog main aFd #[.bool true,I e] h (.tuple #[]):=by
 refine dV.aG aGs rfl (by show 2≤9;decide) [(0,.bool true),(1,I e)] ⟨rfl,rfl,trivial⟩ ?_
 refine W.seq<|W.region rfl<|qm rfl rfl rfl ?_
 refine KU (xU rfl rfl) (show Value.bool (!true)= .bool false from rfl) rfl wn rfl rfl ?_
 refine pq ?_
 refine W.bZ ?_
 refine W.skip ?_
 exact uZ rfl
end Go.aS

/- Type assertions. Conditions: none; over any program. -/
namespace Go.aS
theorem yta{x:Cx}{S:ah→Prop}{ρ:Env}{o:Oper}{y:Operand}{a b:TypeId}{ok:Bool}{u v:Value}(hp:J_ x.P (Instr.typeAssert u a b ok)=some v)(ho:o.op= .typeAssert y a b ok)(hy:ev ρ y=some u):Yv x S ρ o v:=fun e he F hF h' hE=>by
 simp only[execOp,ho,he y _ hy]
 exact bJ (oU hp ⟨rfl,rfl⟩)
end Go.aS

/- A cone is put in; room. Conditions: none; over the given program. -/
namespace Go.aS
set_option maxRecDepth 100000
set_option maxHeartbeats 4000000
def qC(q:List Nat):Array Value:=(q.map fun n=>B8 n).toArray
theorem aDY{q:List Nat}:(qC q).size=q.length:=by simp[qC]
theorem aIL{q:List Nat}{j:Nat}(h:j<q.length):(qC q)[j]? =some (B8 (q.getD j 0)):=by
 simp[qC,List.getD_eq_getElem?_getD,h]
theorem aJM{q:List Nat}{j n:Nat}:(qC q).setIfInBounds j (B8 n)=qC (q.set j n):=by
 simp[qC]
theorem aG0{q:List Nat}:ones (qC q).toList=true:=by
 have:∀l:List Nat,ones (l.map fun n=>B8 n)=true:=by
  intro l;induction l with
  | nil=>rfl
  | cons a l ih=>exact ih
 simpa[qC]using this q
theorem aIM(main:Side)(h:Hp)(sh:List Shf)(cn:List Cne)(hs:List Int)(vs vc vh:Value)(bs bq:Nat)(cs:Array Value)(Es Eg:TypeId)(zs zg:Nat×Nat)(hS:StF cs vs vc vh hs.length)(hbs:h bs=some (.cells cs Es zs))(h1:Sl h Shf.row vs sh)(h2:Sl h Cne.row vc cn)(h3:Sl h fH vh hs)(hok:aCr sh cn hs)(hg:h 0=some (.cells #[Ur qM] Eg zg))
  (i:Nat) (c:Cne) (hc:cn[i]? =some c) (a:Sd) (ha:a∈aB8 sh c hs) (q:List Nat) (hq:QOK q):dV prog main aB1 #[bI bs,bI bq,I i,a.val] h [(bq,.cells (qC q) Pn (0,0))] (fun v A=>Sb [(bq,.cells (qC (aDw sh hs q i c a)) Pn (0,0))] A):=by
 obtain⟨k,d0,e,rfl,hk,hd0,hf,h5,h6⟩:=aFL ha
 have hpA:aDw sh hs q i c ⟨k,d0⟩=aFp i k (e+1-d0) d0 q:=by
  unfold aDw aJH
  simp only[Int.toNat_natCast]
  rw[hf];rfl
 rw[hpA]
 have hc0:=hS.c0
 have hc2:=hS.c2
 have hd4:=hok.d4
 have hs3:=hok.s3
 have hc3:=hok.c3
 have hi3:i<3:=by
  rcases Nat.lt_or_ge i cn.length with h' | h'
  ·omega
  ·rw[List.getElem?_eq_none h']at hc;cases hc
 have k1:=h1
 obtain⟨a1,cap1,rfl⟩:=h1.dA
 refine dV.aG aDf rfl (by show 4≤83;decide) [(0,bI bs),(1,bI bq),(2,I i),(3,.agg #[I k,I d0])] ⟨rfl,rfl,rfl,rfl,trivial⟩ ?_
 refine W.seq<|W.region rfl ?_
 refine Ops.box (fun Vo=>?_)
 refine pq<|W.seq<|W.seq<|W.region rfl ?_
 refine agY rfl ?_
 refine agX rfl ?_
 refine agW (nD rfl rfl rfl) rfl ?_
 refine pq ?_
 refine W.bC rfl (fun c14=>?_) (fun c14=>?_)
 ·exfalso;omega
 ·refine W.skip<|aA<|W.seq ?_
  refine W.rE (n:=22) rfl ?_
  refine xq 0 (ay rfl rfl) rfl ?_
  refine xq 1 (iQ rfl rfl) rfl ?_
  refine xq 2 (aN rfl rfl) rfl ?_
  first | refine xq 3 (bg rfl rfl) rfl ?_ | refine xq 3 (aT rfl rfl) rfl ?_
  refine xq 4 (ay rfl rfl) rfl ?_
  refine xq 5 (ay rfl rfl) rfl ?_
  refine xq 6 (iQ rfl rfl) rfl ?_
  refine xq 7 (dM rfl rfl) rfl ?_
  first | refine xq 8 (acL rfl rfl rfl) rfl ?_ | refine xq 8 (M_ rfl rfl rfl) rfl ?_
  refine Va (i:=9) (u:=.bool true) (fun h' hE hL=>?_) ?_
  ·exact aAA (by omega)
  refine xq 10 (aN rfl rfl) rfl ?_
  refine aq (i:=11) (ay rfl rfl) rfl (b_ rfl rfl rfl rfl) rfl rfl ?_
  refine aq (i:=12) (iQ rfl rfl) rfl (b_ rfl rfl rfl rfl) rfl rfl ?_
  refine aq (i:=13) (aN rfl rfl) rfl (b_ rfl rfl rfl rfl) rfl rfl ?_
  first | refine aq (i:=14) (bg rfl rfl) rfl (b_ rfl rfl rfl rfl) rfl rfl ?_ | refine aq (i:=14) (aT rfl rfl) rfl (b_ rfl rfl rfl rfl) rfl rfl ?_
  refine aq (i:=15) (ay rfl rfl) rfl (b_ rfl rfl rfl rfl) rfl rfl ?_
  refine aq (i:=16) (ay rfl rfl) rfl (b_ rfl rfl rfl rfl) rfl rfl ?_
  refine aq (i:=17) (iQ rfl rfl) rfl (b_ rfl rfl rfl rfl) rfl rfl ?_
  first | refine aq (i:=18) (acL rfl rfl rfl) rfl (b_ rfl rfl rfl rfl) rfl rfl ?_ | refine aq (i:=18) (M_ rfl rfl rfl) rfl (b_ rfl rfl rfl rfl) rfl rfl ?_
  refine Va (i:=19) (u:=.bool true) (fun h' hE hL=>?_) ?_
  ·exact aAA (by omega)
  refine xq 20 (dG rfl rfl rfl) rfl ?_
  refine Va (i:=21) (fun h' hE hL=>aGZ _ _ _) ?_
  refine az ?_
  refine aA<|W.seq<|W.region rfl<|qm rfl rfl rfl<|qm rfl rfl rfl ?_
  first | refine ag2 rfl ?_ | refine agW (ady rfl rfl) rfl ?_
  refine cp (fun h' hE hL=>aHU _ h' sh cn hs _ _ _ bs cs _ _ _ _ hS (hE.1 _ _ hbs) (k1.ext hE) (h2.ext hE) (h3.ext hE) hok (hE.1 _ _ hg) i k d0 c hc hk hd0) ?_
  refine pq<|W.block<|W.seq ?_
  rw[hf]
  refine W.region rfl ?_
  refine agW (yta (v:=.tuple #[.agg #[I 0],.bool false]) (by kernel_rfl) rfl rfl) rfl ?_
  refine oq (bD rfl rfl rfl) rfl wn rfl rfl<|oq (bD rfl rfl rfl) rfl wn rfl rfl<|pq ?_
  refine W.bZ ?_
  refine W.seq<|W.region rfl ?_
  refine agW (yta (v:=.tuple #[.agg #[I 0],.bool false]) (by kernel_rfl) rfl rfl) rfl ?_
  refine oq (bD rfl rfl rfl) rfl wn rfl rfl<|oq (bD rfl rfl rfl) rfl wn rfl rfl<|pq ?_
  refine W.bZ ?_
  refine W.seq<|W.region rfl ?_
  refine agW (yta (v:=.tuple #[.agg #[I e],.bool true]) (by kernel_rfl) rfl rfl) rfl ?_
  refine oq (bD rfl rfl rfl) rfl wn rfl rfl<|oq (bD rfl rfl rfl) rfl wn rfl rfl<|pq ?_
  refine W.dW ?_
  refine W.seq<|W.region rfl ?_
  refine Ops.new (fun Oj=>?_)
  first | refine Ops.jP ?_ | refine Ops.nY ?_
  refine pq<|W.seq<|W.region rfl ?_
  refine agY rfl ?_
  refine agX rfl ?_
  refine agb rfl rfl rfl<|pq<|W.block ?_
  refine W.aa1 (fun(m:Nat) (r:List Nat)=>m≤e+1-d0∧QOK r∧aFp i k (e+1-d0-m) (d0+m) r=aFp i k (e+1-d0) d0 q) (fun m _=>[(11,I ((d0+m:Nat):Int)),(10,bI Oj),(7,bI Vo),(1,bI bq),(2,I i)]) (fun _ r=>[(Oj,.cells #[I e] aEi (0,0)),(Vo,.cells #[I k,I d0] aBC (0,0)),(bq,.cells (qC r) Pn (0,0))]) (fun m _=>e+1-d0-m) 0 q ⟨Nat.zero_le _,hq,rfl⟩ ⟨rfl,rfl,rfl,rfl,rfl,trivial⟩ .refl ?_
  rintro m r ⟨hm,hr,hp⟩
  refine W.seq<|W.seq<|W.region rfl<|qm rfl rfl rfl ?_
  refine agY rfl ?_
  refine agX rfl ?_
  refine agW (Lr rfl rfl rfl) rfl ?_
  refine pq ?_
  refine W.bC rfl (fun c63=>?_) (fun c63=>?_)
  ·obtain⟨N,hN⟩:∃N,e+1-d0-m=N+1:=⟨e-d0-m,by omega⟩
   rw[hN,aFp]at hp
   have hr8:=hr.at (k*4+(d0+m))
   have hrl:k*4+(d0+m)<r.length:=by rw[hr.len];omega
   have hsz:(qC r).size=12:=by rw[aDY,hr.len]
   have hat:(qC r)[0+k*4+(d0+m)*1]? =some (B8 (r.getD (k*4+(d0+m)) 0)):=by
    rw[show 0+k*4+(d0+m)*1=k*4+(d0+m) by omega];exact aIL hrl
   refine W.skip<|aA<|W.seq<|W.block ?_
   refine W.rE (n:=18) rfl ?_
   refine xq 0 (aN rfl rfl) rfl ?_
   refine xq 1 (ay rfl rfl) rfl ?_
   refine xq 2 (iQ rfl rfl) rfl ?_
   refine xq 3 (aN rfl rfl) rfl ?_
   refine xq 4 (aN rfl rfl) rfl ?_
   refine xq 5 (ay rfl rfl) rfl ?_
   refine xq 6 (iQ rfl rfl) rfl ?_
   refine xq 7 (aN rfl rfl) rfl ?_
   first | refine xq 8 (bg rfl rfl) rfl ?_ | refine xq 8 (aT rfl rfl) rfl ?_
   first | refine xq 9 (UN rfl rfl rfl) rfl ?_ | refine xq 9 (Qg rfl rfl rfl) rfl ?_
   first | refine xq 10 (UN rfl rfl rfl) rfl ?_ | refine xq 10 (Qg rfl rfl rfl) rfl ?_
   refine xq 11 (iQ rfl rfl) rfl ?_
   refine xq 12 (aN rfl rfl) rfl ?_
   first | refine xq 14 (bg rfl rfl) rfl ?_ | refine xq 14 (aT rfl rfl) rfl ?_
   first | refine xq 15 (UN rfl rfl rfl) rfl ?_ | refine xq 15 (Qg rfl rfl rfl) rfl ?_
   refine Va (i:=13) (fun h' hE hL=>aIK _ h' _ i hr8 hi3) ?_
   first | refine xq 16 (UN rfl rfl rfl) rfl ?_ | refine xq 16 (Qg rfl rfl rfl) rfl ?_
   refine ae (i:=17) rfl an rfl rfl (eS rfl rfl rfl ?_)
   refine⟨.inl (by kernel_rfl),?_⟩
   refine az ?_
   refine dI<|aA<|W.region rfl<|qm rfl rfl rfl ?_
   refine ag1 rfl ?_
   refine agb rfl rfl rfl<|pq ?_
   have hN':e+1-d0- (m+1)=N:=by omega
   refine⟨rfl,m+1,r.set (k*4+(d0+m)) (r.getD (k*4+(d0+m)) 0||| 2 ^ i),⟨by omega,hr.set hi3,by rw[hN'];exact hp⟩,by omega,⟨lk rfl (show I _=I _ by congr 1),rfl,rfl,rfl,rfl,trivial⟩,?_⟩
   rw[show 0+k*4+(d0+m)*1=k*4+(d0+m) by omega,aJM]
   exact .refl
  ·have hme:e+1-d0-m=0:=by omega
   rw[hme,aFp]at hp
   subst hp
   refine W.exit<|bP<|bP<|gG<|dI ?_
   exact mg (vs:=[]) (.skip rfl (.skip rfl .refl))
end Go.aS
