/- Sets of pans; those that are open; what comes out; the beginning of each question. Conditions: none; over the given program. (And 13 texts more.) -/
import Derived.Test.YtkkdgffaohidnaaGreatDoorR09
import Derived.Test.YtkkdgffaohidnaaGreatDoorR07
set_option linter.unusedVariables false
set_option linter.unusedSimpArgs false
set_option linter.unusedSectionVars false

/- Sets of pans; those that are open; what comes out; the beginning of each question. Conditions: none; over the given program. -/
namespace Go.aS
set_option maxRecDepth 100000
set_option maxHeartbeats 4000000
theorem X4(main:Side)(h:Hp)(m k:Nat)(hm:m<16)(hk:k<4):Pu prog main yt #[U8 m,I k] h (.bool (m.testBit k)):=by
 refine dV.aG FV rfl (by show 2≤10;decide) [(0,U8 m),(1,I k)] ⟨rfl,rfl,trivial⟩ ?_
 refine W.seq<|W.region rfl<|agb rfl rfl rfl<|pq<|W.seq<|W.region rfl<|qm rfl rfl rfl<|qm rfl rfl rfl ?_
 refine agW (Gw rfl rfl rfl (by omega)) rfl ?_
 refine agW (aaK rfl rfl rfl) rfl ?_
 refine agW (nD rfl rfl rfl) rfl ?_
 refine agb rfl rfl rfl<|pq<|W.ret ?_
 refine uZ ?_
 exact congrArg Value.bool (Z_ hm hk)

theorem list_fn(main:Side)(h:Hp)(m:Nat)(hm:m<16):dV prog main vN #[U8 m] h [] (fun v A=>Os dL fH v (zs (JL m)) A):=by
 refine dV.aG Eu rfl (by show 1≤17;decide) [(0,U8 m)] ⟨rfl,trivial⟩ ?_
 refine W.seq<|W.region rfl<|agb rfl rfl rfl<|pq<|W.seq<|W.region rfl<|agb rfl rfl rfl<|pq ?_
 refine W.seq<|W.seq<|W.region rfl<|qm rfl rfl rfl<|pq<|W.block ?_
 refine W.Js (fun(k:Nat) (v:Value) (S:ah)=>k≤4∧Os dL fH v (zs ((List.range k).filter fun n=>m.testBit n)) S) (fun k v S=>[(5,I k),(3,v),(0,U8 m)]) (fun k v S=>S) (fun k _ _=>4-k) 0 (.slice none 0 0) [] ⟨Nat.zero_le _,.nil .nil⟩ ⟨rfl,rfl,rfl,trivial⟩ .refl ?_
 rintro k v S ⟨hk,hS⟩
 refine W.seq<|W.region rfl ?_
 refine agW (fO rfl rfl rfl) rfl ?_
 refine pq<|W.seq ?_
 refine W.bC rfl (fun c6=>?_) (fun c6=>?_)
 ·have hk4:k<4:=by omega
  have hlen:(zs ((List.range k).filter fun n=>m.testBit n)).length≤4:=by rw[kT];exact Nat.le_trans (List.length_filter_le ..) (by simp;omega)
  refine W.skip<|aA<|W.seq<|W.block<|W.seq<|W.region rfl<|qm rfl rfl rfl<|agb rfl rfl rfl<|pq ?_
  refine W.seq<|W.region rfl<|qm rfl rfl rfl<|qm rfl rfl rfl ?_
  refine cp (fun h' hE hL=>X4 _ h' m k hm hk4) ?_
  refine pq ?_
  refine W.cond rfl (fun c10=>?_) (fun c10=>?_)
  ·refine W.region rfl<|qm rfl rfl rfl<|qm rfl rfl rfl ?_
   refine Ops.NK (cs:= #[I k]) (fun X5=>?_) rfl
   refine oe rfl wn rfl rfl (iW (row:=fH) (l':=[(k:Int)]) rfl rfl rfl hS (.tail .all) (fun h2 _ hl=>Sl.mk (hl X5 _ (.head _)) rfl (Part.all [I k])) (by simp;omega) (by decide) rfl (fun v' S' hS'=>?_))
   refine agb rfl rfl rfl<|Ops.nil<|dI<|aA<|W.region rfl ?_
   refine ag1 rfl ?_
   refine qm rfl rfl rfl<|pq ?_
   exact⟨rfl,k+1,v',S',⟨by omega,by rw[List.range_succ,List.filter_append,X3];simpa[zs,c10]using hS'⟩,by omega,⟨rfl,rfl,rfl,trivial⟩,.skip rfl .refl⟩
  ·refine W.skip<|dI<|aA<|W.region rfl ?_
   refine ag1 rfl ?_
   refine qm rfl rfl rfl<|pq ?_
   exact⟨rfl,k+1,v,S,⟨by omega,by rw[List.range_succ,List.filter_append,X3];simpa[zs,c10]using hS⟩,by omega,⟨rfl,rfl,rfl,trivial⟩,.refl⟩
 ·refine W.exit<|bP<|bP<|gG<|aA<|W.seq<|W.region rfl<|qm rfl rfl rfl<|agb rfl rfl rfl<|Ops.nil ?_
  refine aA<|W.ret ?_
  obtain rfl:k=4:=by omega
  exact mg (vs:=[v]) hS

abbrev xJ(vp:Value)(c:Nat):Value:=.agg #[vp,U8 c]
theorem EM(main:Side)(h:Hp)(ps:List Pn)(vp:Value)(c q:Nat)(hf:Sl h Pn.row vp ps)(h4:ps.length≤4)(hc:c<16):dV prog main pO #[xJ vp c,I q] h [] (fun v A=>∃S,Os dL fH v (zs (bQ ps c q)) S∧Sb S A):=by
 obtain⟨a,cap,rfl⟩:=hf.dA
 refine dV.aG yI rfl (by show 2≤13;decide) [(0,xJ (.slice a ps.length cap) c),(1,I q)] ⟨rfl,rfl,trivial⟩ ?_
 have hb:=X0 (a:=P_ ps q) (c:=c) (LX (by simpa using h4)) hc
 refine W.seq<|W.region rfl ?_
 refine Ops.box (cs:= #[.slice a ps.length cap,U8 c]) (fun yR=>?_)
 refine agb rfl rfl rfl<|pq<|W.seq ?_
 refine W.rE (n:=9) rfl ?_
 refine xq 0 (ay rfl rfl) rfl ?_
 first | refine xq 1 (Bf rfl rfl) rfl ?_ | refine xq 1 (zi rfl rfl) rfl ?_
 refine xq 2 (aN rfl rfl) rfl ?_
 refine xq 4 (ay rfl rfl) rfl ?_
 refine xq 5 (iQ rfl rfl) rfl ?_
 refine Va (i:=3) (fun h' hE hL=>JR _ h' ps _ _ (hf.ext hE) h4) ?_
 refine aqe (i:=6) (OL rfl rfl rfl) (congrArg (Value.int .u8) hb.1) rfl an rfl rfl ?_
 refine ae (i:=7) rfl an rfl rfl (lQ (args:=[_]) rfl rfl (fun h' hE hL=>list_fn _ h' _ hb.2.1) (fun v A' hv=>?_))
 refine⟨.inr (Keeps.app Keeps.refl),?_⟩
 refine xq 8 (jS rfl rfl) rfl ?_
 refine az ?_
 refine aA<|W.ret ?_
 refine mg (vs:=[v]) ⟨A',?_,.right .refl (.cons rfl .nil)⟩
 have e:JL (R_ (P_ ps q) c)=bQ ps c q:=by rw[hb.2.2];simp only[JQ];rfl
 rw[←e];exact hv

theorem Dl(main:Side)(h:Hp)(ps:List Pn)(vp:Value)(i q:Nat)(hf:Sl h Pn.row vp ps)(hok:iP ps)(hi:i<ps.length)(hq:q<13):Pu prog main uh #[.agg #[vp],I i,I q] h (I (gy ps i q)):=by
 obtain⟨p,hp,hdr⟩:=has hi
 have hpk:=hok.pan p (List.mem_of_getElem? hp)
 obtain⟨a,cap,rfl⟩:=hf.dA
 obtain⟨b,off,c,E,fz,hv,hb,hx,hy,hz⟩:=hf.at hp
 refine dV.aG C9 rfl (by show 3≤17;decide) [(0,.agg #[.slice a ps.length cap]),(1,I i),(2,I q)] ⟨rfl,rfl,rfl,trivial⟩ ?_
 have hx':c.extract (off+i*3) (off+i*3+3)= #[I p.lo,I p.hi,I p.sh]:=hx
 have h2:c[off+i*3+2]? =some (I p.sh):=hz 2 (by decide)
 clear hx hz
 cases hv
 refine W.seq<|W.region rfl ?_
 refine Ops.box (fun uU=>?_)
 refine agb rfl rfl rfl<|pq<|W.seq<|W.region rfl<|qm rfl rfl rfl ?_
 refine agY rfl ?_
 refine agX rfl ?_
 refine qm rfl rfl rfl ?_
 refine ag3 rfl ?_
 refine agY rfl ?_
 refine agX rfl ?_
 refine ag1 rfl ?_
 refine agW (y8 rfl rfl rfl) rfl ?_
 refine agW (Tm rfl rfl rfl) rfl ?_
 refine agb rfl rfl rfl<|pq<|W.ret ?_
 refine uZ ?_
 rw[Vl hp]
 show I _=I _
 congr 1

theorem Si(main:Side)(h:Hp)(ps:List Pn)(vp:Value)(c:Nat)(q:Int)(hf:Sl h Pn.row vp ps)(h4:ps.length≤4):Pu prog main mD #[xJ vp c,I q] h (.bool (dY ps q)):=by
 obtain⟨a,cap,rfl⟩:=hf.dA
 refine dV.aG uM rfl (by show 2≤10;decide) [(0,xJ (.slice a ps.length cap) c),(1,I q)] ⟨rfl,rfl,trivial⟩ ?_
 refine W.seq<|W.region rfl ?_
 refine Ops.box (cs:= #[.slice a ps.length cap,U8 c]) (fun yR=>?_)
 refine agb rfl rfl rfl<|pq<|W.seq<|W.region rfl ?_
 refine agY rfl ?_
 refine ag2 rfl ?_
 refine qm rfl rfl rfl ?_
 refine cp (fun h' hE hL=>JR _ h' ps _ _ (hf.ext hE) h4) ?_
 refine agW (nD rfl rfl rfl) rfl ?_
 refine agb rfl rfl rfl<|pq<|W.ret ?_
 refine uZ ?_
 rw[←aac]
 show Value.bool _=Value.bool _
 congr 1
 exact decide_eq_decide.2 (by omega)

def kU(ps:List Pn)(ql:List Int):Int:=if nV ps≠0 then nV ps else if ql.any (fun q=>decide (outs q 0 12))then 1 else 0
abbrev LZ:Value:=xJ (.slice none 0 0) 0
theorem Am(main:Side)(h:Hp)(ps:List Pn)(vp:Value)(ql:List Int)(vl:Value)(hf:Sl h Pn.row vp ps)(hl:Sl h fH vl ql)(hn:ql.length≤1000):Pu prog main Cc #[vp,vl] h (.tuple #[if kU ps ql=0 then xJ vp 0 else LZ,I (kU ps ql)]):=by
 obtain⟨a,cap,rfl⟩:=hf.dA
 obtain⟨a2,cap2,rfl⟩:=hl.dA
 refine dV.aG JC rfl (by show 2≤28;decide) [(0,.slice a ps.length cap),(1,.slice a2 ql.length cap2)] ⟨rfl,rfl,trivial⟩ ?_
 refine W.seq<|W.region rfl ?_
 refine Ops.new (fun wC=>?_)
 refine agb rfl rfl rfl<|pq<|W.seq<|W.seq<|W.region rfl<|qm rfl rfl rfl ?_
 refine cp (fun h' hE hL=>Vm _ h' _ _ (hf.ext hE)) ?_
 refine agb rfl rfl rfl<|pq<|W.seq<|W.region rfl<|qm rfl rfl rfl ?_
 refine agW (nG rfl rfl rfl) rfl ?_
 refine pq ?_
 refine W.bC rfl (fun c12=>?_) (fun c12=>?_)
 ·refine W.seq<|W.region rfl ?_
  refine agW (eH rfl rfl rfl) rfl ?_
  refine qm rfl rfl rfl ?_
  first | refine Ops.jP ?_ | refine Ops.nY ?_
  refine agb rfl rfl rfl<|pq<|W.ret<|aY ?_
  refine QJ (hv:=D_ (RN zJ)) ⟨?_,.cons rfl .nil⟩
  have e:kU ps ql=nV ps:=by rw[kU,if_pos c12]
  rw[e,if_neg c12];rfl
 ·refine W.skip<|aA<|W.seq<|W.seq<|W.region rfl<|qm rfl rfl rfl ?_
  refine agW (dM rfl rfl) rfl ?_
  refine qm rfl rfl rfl<|pq<|W.block ?_
  refine W.loop (σ:=Nat) (fun k=>k≤ql.length∧ql.any (fun q=>decide (outs q 0 12))=(ql.drop k).any (fun q=>decide (outs q 0 12))) (fun k=>[(17,I k),(16,I ql.length),(15,.slice a2 ql.length cap2),(0,.slice a ps.length cap),(4,.pointer (some ⟨wC,0,none⟩))]) (fun _=>[(wC,.cells #[.slice none 0 0,U8 0] 90 (0,0))]) (fun k=>ql.length-k) 0 ⟨Nat.zero_le _,rfl⟩ ⟨rfl,rfl,rfl,rfl,rfl,trivial⟩ .refl ?_
  rintro k ⟨hk,hd⟩
  have h0:nV ps=0:=by simpa using c12
  refine W.seq<|W.region rfl ?_
  refine agW (fO rfl rfl rfl) rfl ?_
  refine pq<|W.seq ?_
  refine W.bC rfl (fun c18=>?_) (fun c18=>?_)
  ·obtain⟨q,hp,hdr⟩:=has (show k<ql.length by omega)
   rw[hdr]at hd
   obtain⟨b,off,c,E,fz,rfl,hb,hx,hy,hz⟩:=hl.at hp
   have hx':c[off+k*1]? =some (I q):=hz 0 (by decide)
   clear hx hz
   refine W.skip<|aA<|W.seq<|W.block<|W.seq<|W.region rfl ?_
   refine ag3 rfl ?_
   refine agX rfl ?_
   refine agb rfl rfl rfl<|pq<|W.seq<|W.region rfl<|qm rfl rfl rfl ?_
   refine cp (fun h' hE hL=>jo _ h' _ _ _) ?_
   refine pq ?_
   refine W.bC rfl (fun Qc=>?_) (fun Qc=>?_)
   ·refine W.seq<|W.region rfl ?_
    refine agW (eH rfl rfl rfl) rfl ?_
    first | refine Ops.jP ?_ | refine Ops.nY ?_
    refine agb rfl rfl rfl<|pq<|W.ret<|cZ<|aY<|aY<|cZ<|aY ?_
    refine QJ (hv:=D_ (RN zJ)) ⟨?_,.cons rfl .nil⟩
    have e:kU ps ql=1:=by rw[kU,if_neg (by simpa using h0),hd];simp[Qc]
    rw[e];rfl
   ·refine W.skip<|dI<|aA<|W.region rfl ?_
    refine ag1 rfl ?_
    refine qm rfl rfl rfl<|pq ?_
    exact⟨rfl,k+1,⟨by omega,by rw[hd];simp[Qc]⟩,by omega,⟨rfl,rfl,rfl,rfl,rfl,trivial⟩,TW⟩
  ·refine W.exit<|bP<|bP<|gG<|aA<|W.seq<|W.region rfl<|qm rfl rfl rfl ?_
   refine agW (eH rfl rfl rfl) rfl ?_
   refine agW (eH rfl rfl rfl) rfl ?_
   first | refine Ops.jP ?_ | refine Ops.nY ?_
   refine agb rfl rfl rfl<|pq<|W.ret ?_
   refine QJ (hv:=D_ (RN zJ)) ⟨?_,.cons rfl .nil⟩
   have e:kU ps ql=0:=by
    obtain rfl:k=ql.length:=by omega
    rw[kU,if_neg (by simpa using h0),hd];simp
   rw[e];rfl
end Go.aS

/- Two answering operations in an open order. Conditions: none; over any program. -/
namespace Go.aS
section
variable{x:Cx}{Q:Post}{ρ:Env}{ds:List Deferred}{F:ah}{ops:Array Oper}{d:Tmp}{ty:TypeId}{pos:String}{bK:Array Edge}{g:Option (Nat×Bool)}
variable{args:List Operand}{ts:Array TypeId}{vs:List Value}{y:Operand}{name:String}{t:TypeId}{u r:Value}{f:FuncId}
end
end Go.aS

/- A loop over a function that may be left: what is owned then is told apart. Conditions: none; over any program. -/
namespace Go.aS
theorem Tc.fn{P:Program}{main:Side}{h:Hp}{ds:List Deferred}{F A:ah}{U:ah→ah}{K R:ah→Prop}{f:FuncId}[FB P f]{cap:Array Value}(hs:Seg A F U)(H:∀h',Ext h h'→fF (U []) h'→Y8 P main f cap h' A R)(k:∀A',R A'→Tc P main h ds (A'++U []) K):Tc P main h ({target:=.fn (.func f) cap,args:= #[]}::ds) F K:=by
 obtain⟨fn,h1,h2,h3⟩:=FB.out (inferInstance:FB P f)
 show tr P h (callFunc f (#[]++cap)) F _
 simp only[callFunc,bind_eq,au,l7,h1,h2,h3,Bool.false_eq_true,if_false,Array.empty_append]
 exact⟨f,cap,rfl,A,U [],hs.perm.1,fun h' e1 e2=>(H h' e1 e2).mono fun A' r=>k A' r⟩
theorem X6{P:Program}{main:Side}{fn:Func}{h:Hp}{R':Value→ah→Prop}{e:Exit}{ρ:Env}{ds:List Deferred}{F A:ah}{U:ah→ah}{R:ah→Prop}{f:FuncId}[FB P f]{cap:Array Value}(hs:Seg A F U)(H:∀h',Ext h h'→fF (U []) h'→Y8 P main f cap h' A R)(k:∀A',R A'→leave P main fn h R' e ρ ds (A'++U []))(he:e= .ret∨e= .normal:=by first | exact .inl rfl | exact .inr rfl):leave P main fn h R' e ρ ({target:=.fn (.func f) cap,args:= #[]}::ds) F:=
 ⟨he,Tc.fn hs H fun A' r=>(k A' r).2⟩
end Go.aS

/- Scopes of labels; slices beside nil. Conditions: none; over any program. -/
namespace Go.aS
theorem adz{P:Program}{t E:TypeId}[TD P t (.slice E)]{h:Hp}{F:ah}{β:Type}{f:Bool→Sem β}{Q:β→ah→Prop}{a:Option Addr}{n c:Nat}(d:Nat):tr P h ((Op.equalIn (d+1) t (.slice a n c) (.slice none 0 0)).bind f) F Q=tr P h (f a.isNone) F Q:=by
 cases a with
 | none=>simp only[Op.equalIn,bind_eq,au,bind_assoc,bind_pure,aC]
 | some a=>simp only[Op.equalIn,bind_eq,au,bind_assoc,bind_pure,aC];rfl
theorem aae{x:Cx}{ρ:Env}{S:ah→Prop}{o:Oper}{t t' E:TypeId}{y:Operand}{a:Option Addr}{n c:Nat}(ho:o.op= .binOp .eql t y (.const (.slice none 0 0)) t')[TD x.P t (.slice E)](hy:ev ρ y=some (.slice a n c)):Yv x S ρ o (.bool a.isNone):=fun e he F hF h' hE=>by
 have hc:e (.const (.slice none 0 0))= .slice none 0 0:=he _ _ rfl
 have hg:eqGuard .eql t y (.const (.slice none 0 0)) (.slice a n c) (.slice none 0 0)= .pure ():=by
  simp[eqGuard,au]
 obtain⟨dd,hdd⟩:=CU t (.slice a n c) (.slice none 0 0)
 simp only[execOp,ho,he y _ hy,hc,hg,binOp,hdd,bind_eq,au,bind_assoc,bind_pure,adz]
 exact⟨rfl,rfl⟩
theorem W.awj{x:Cx}{Q:Post}{ρ:Env}{F:ah}{σ:Type}{c:Code}(Ds:σ→List Deferred)(C:σ→Prop)(E:σ→Env)(D:σ→ah)(μ:σ→Nat)(s₀:σ)(h₀:C s₀)(he:Sub (E s₀) ρ)(hF:Sb (D s₀) F)
  (round:∀s,C s→W x c (thn (fun ρ' ds' F'=>∃s',ds'=Ds s'∧C s'∧μ s'<μ s∧Sub (E s') ρ'∧Sb (D s') F') Q) (E s) (Ds s) (D s)):W x (.loop c) Q ρ (Ds s₀) F:=by
 refine W.env he (W.sb hF ?_)
 intro b k cs Stop tmps hk M h1 h0 h2 h3 h4 h5 hc
 refine .idle rfl (fun _=>SY) ?_
 have key:∀N s,μ s=N→C s→∀tmps hk M,dQ (E s) tmps→tmps.size=x.n→Sat x.h (D s) hk M→(∀e ρ' ds' F' aZ hk' M',Q e ρ' ds' F'→dQ ρ' aZ→aZ.size=x.n→Sat x.h F' hk' M'→Fr M (D s) M' F'→After x.P x.main Stop b k cs e aZ ds' hk' M')→
   Gs x.P x.main Stop (G (bW b tmps (Ds s) (.code c:: .inLoop c::k)) cs) hk M:=by
  intro N
  induction N using Nat.strongRecOn with
  | _ N ih=>
   intro s hN hs tmps hk M h3 h4 h5 hc
   refine round s hs b (.inLoop c::k) cs Stop tmps hk M h1 h0 h2 h3 h4 h5 fun e ρ' ds' F' aZ hk' M' q a1 a2 a3 a4=>?_
   cases e with
   | normal=>
    obtain⟨s',rfl,c1,c2,c3,c4⟩:=q
    exact .idle rfl (fun _=>Lj) (ih (μ s') (hN▸c2) s' rfl c1 aZ hk' M' (a1.sub c3) a2 (a3.sb c4) fun e tC ds₂ kP ng hk₂ jr q₂ e1 e2 e3 e4=>hc e tC ds₂ kP ng hk₂ jr q₂ e1 e2 e3 (a4.trans (e4.sub fun _ y=>c4.mem _ y)))
   | exit id=>exact(hc _ _ _ _ _ _ _ q a1 a2 a3 a4).push rfl (by simp)
   | goto l=>exact(hc _ _ _ _ _ _ _ q a1 a2 a3 a4).push rfl (by simp)
   | ret=>exact(hc _ _ _ _ _ _ _ q a1 a2 a3 a4).push (x:=.inLoop c) rfl (by simp)
   | panic ch=>exact hc _ _ _ _ _ _ _ q a1 a2 a3 a4
   | outgrown=>exact hc _ _ _ _ _ _ _ q a1 a2 a3 a4
 exact key _ s₀ rfl h₀ tmps hk M h3 h4 h5 hc


def auI(l:List Nat):List Deferred:=l.map mark
def as3(l:List Nat):ah:=l.map fun d=>(d,.deferred (some []))
end Go.aS

/- Short forms for senders. Conditions: none; over any program. -/
namespace Go.aS
def Zs(h:Hp)(v:Value):Prop:=∀b off n cap,v= .slice (some ⟨b,off,none⟩) n cap→h.z b
theorem Sl.told{α:Type}{row:α→List Value}{w:Nat}[Rw row w]{h:Hp}{v:Value}{l:List α}(H:Sl h row v l)(hz:Zs h v):Sl (zI h) row v l:=by
 obtain⟨a,cap,rfl,hx⟩:=H
 refine⟨a,cap,rfl,fun hne=>?_⟩
 obtain⟨b,off,cc,E,fz,rfl,hb,hp⟩:=hx hne
 exact⟨b,off,cc,E,fz,rfl,Ji (hz _ _ _ _ rfl) hb rfl,hp⟩
theorem Zs.ext{h h':Hp}{v:Value}(H:Zs h v)(e:Ext h h'):Zs h' v:=fun b off n cap hv=>e.2 b (H b off n cap hv)

theorem Zs.nil{h:Hp}:Zs h (.slice none 0 0):=fun b off n cap e=>by cases e

section
variable{x:Cx}{Q:Post}{ρ:Env}{ds:List Deferred}{ops:Array Oper}{id n:Nat}{y₁ y₂ y₃:Nat×Obj}{G:ah}
theorem W.Ap(hn:ops.size=n)(H:Any x ops [y₁,y₂] n 0 Q ρ ds (y₁::y₂::G))[MO x.P]:W x (.region id ops true) Q ρ ds (y₁::y₂::G):=W.DR _ hn H
end
section
variable{x:Cx}{Q:Post}{ρ:Env}{ds:List Deferred}{F:ah}{ops:Array Oper}{i:Nat}{d:Tmp}{ty:TypeId}{pos:String}{bK:Array Edge}{g:Option (Nat×Bool)}{L:ah}{vs:List Value}
theorem abl{fuel listed t E s b len:Nat}{z:Value}{zc:Array Value}{parts:List (Nat×Operand)}{cs:Array Value}(H:∀β,Any x ops L fuel (listed||| 2 ^ i) Q ((d,.slice (some ⟨β,0,none⟩) len len)::ρ) ds ((β,.cells cs E (0,0))::F))
  (ho:cO ops.toList i=some ⟨some d,.buildSlice t len parts.toArray,ty,pos,bK,g⟩:=by rfl) (hk:Keeps L F:=by first | exact fun _ h=>h | (repeat(first | exact Keeps.nil | refine Keeps.one (by repeat(first | exact List.Mem.head _ | apply List.Mem.tail)) ?_))) [TD x.P t (.slice E)] [TI x.P E s b z zc] (hv:evs ρ (parts.map (·.2))=some vs:=by rfl) (hls:0<len*s:=by decide) (hl:len*s≤2 ^ 24:=by decide)
  (hf:Instr.fill (fun i=>some (i*s,s)) ((List.range (len*s)).map (fun i=>zc[i % zc.size]!)).toArray ((parts.map (·.1)).zip vs)=some cs:=by rfl)
  (hw:dR ops (look ρ) ⟨some d,.buildSlice t len parts.toArray,ty,pos,bK,g⟩ true:=by first | exact an | exact b_ rfl rfl rfl rfl) (hd:Nat.blt d x.n=true:=by rfl) (hr:qx ops listed=[i]:=by kernel_rfl):Any x ops L (fuel+1) listed Q ρ ds F:=
 Any.eff (o:=⟨some d,.buildSlice t len parts.toArray,ty,pos,bK,g⟩) (DN rfl hv hls hl (by rw[show(Array.range (len*s)).map (zc[· % zc.size]!)=((List.range (len*s)).map (fun i=>zc[i % zc.size]!)).toArray by apply Array.ext';simp];exact hf) fun β _ _=>⟨.inr fun p hp=>List.mem_cons_of_mem _ (hk p hp),H β⟩) hr (aU ho) hw hd rfl
end
end Go.aS

/- Structs and arrays of numbers beside each other; maps whose keys are of these. Conditions: none; over any program. -/
namespace Go.aS
class NS(P:Program)(t:TypeId):Prop where
 stood:P.stoodInHeld t=false
 guard:P.eqGuardType P.depth t=false

abbrev nI(n:Int):Value:=.int .i64 n
def EqAt(P:Program)(t:TypeId)(w K:Nat):Prop:=∀{h:Hp} {F:ah} {β:Type} {f:Bool→Sem β} {Q:β→ah→Prop} (d:Nat) {xs ys:Array Value} {off:Nat} {us bs:List Int},us.length=w→bs.length=w→Part xs off (us.map nI)→Part ys off (bs.map nI)→
 tr P h ((part t xs off).bind fun x=>(part t ys off).bind fun y=>(Op.equalIn (d+K) t x y).bind f) F Q=tr P h (f (decide (us=bs))) F Q
def V7(P:Program)(t:TypeId)(w K:Nat):Prop:=∀{h:Hp} {F:ah} {β:Type} {f:Bool→Sem β} {Q:β→ah→Prop} (d:Nat) {us bs:List Int},us.length=w→bs.length=w→
 tr P h ((Op.equalIn (d+K) t (.agg (us.map nI).toArray) (.agg (bs.map nI).toArray)).bind f) F Q=tr P h (f (decide (us=bs))) F Q

theorem EqAt.le{P:Program}{t w K K':Nat}(H:EqAt P t w K)(h:K≤K'):EqAt P t w K':=by
 intro hp F β f Q d xs ys off us bs h1 h2 h3 h4
 have:= @H hp F β f Q (d+(K'-K)) xs ys off us bs h1 h2 h3 h4
 rwa[show d+(K'-K)+K=d+K' by omega]at this
theorem EqAt.int{P:Program}{t:TypeId}[TD P t (.int .i64)][SC P t]:EqAt P t 1 1:=by
 intro hp F β f Q d xs ys off us bs h1 h2 h3 h4
 obtain⟨a,rfl⟩:=List.length_eq_one_iff.1 h1
 obtain⟨b,rfl⟩:=List.length_eq_one_iff.1 h2
 have e1:xs[off]? =some (nI a):=h3.get (j:=0) (by simp)
 have e2:ys[off]? =some (nI b):=h4.get (j:=0) (by simp)
 rw[lT e1,lT e2]
 simp only[Op.equalIn,bind_eq,au,bind_assoc,bind_pure,aC,if_true]
 congr 2
 rw[Ii]
 by_cases h:a=b <;>simp[h]
theorem V7.at{P:Program}{t w K:Nat}(H:V7 P t w K)[AG P t w]:EqAt P t w K:=by
 intro hp F β f Q d xs ys off us bs h1 h2 h3 h4
 have e1:=h3.extract
 have e2:=h4.extract
 rw[List.length_map,h1]at e1
 rw[List.length_map,h2]at e2
 rw[ru,ru,e1,e2]
 exact H d h1 h2

theorem EN{us bs:List Int}{w:Nat}(h:us.take w=bs.take w)(h':us.drop w=bs.drop w):us=bs:=by
 rw[←List.take_append_drop w us,←List.take_append_drop w bs,h,h']
theorem Part.two{xs:Array Value}{off w:Nat}{us:List Int}(h:Part xs off (us.map nI))(hw:w≤us.length):Part xs off ((us.take w).map nI)∧Part xs (off+w) ((us.drop w).map nI):=by
 have e:us.map nI=[]++((us.take w).map nI++(us.drop w).map nI):=by rw[List.nil_append,←List.map_append,List.take_append_drop]
 constructor
 ·rw[e]at h;exact h.sub
 ·have e':us.map nI=(us.take w).map nI++((us.drop w).map nI++[]):=by rw[List.append_nil,←List.map_append,List.take_append_drop]
  rw[e']at h
  have:=h.sub
  rwa[List.length_map,List.length_take,Nat.min_eq_left hw]at this

def Lay(P:Program)(K:Nat):List Field→List Nat→Nat→Prop
 | [],[],_=>True
 | f::fs,w::ws,o=>f.name≠ "_" ∧f.offset=o∧EqAt P f.type w K∧Lay P K fs ws (o+w)
 | _,_,_=>False

theorem Lay.nil{P:Program}{K o:Nat}:Lay P K [] [] o:=trivial
theorem Lay.cons{P:Program}{K o w:Nat}{f:Field}{fs:List Field}{ws:List Nat}(hn:f.name≠ "_")(ho:f.offset=o)(he:EqAt P f.type w K)(hl:Lay P K fs ws (o+w)):Lay P K (f::fs) (w::ws) o:=⟨hn,ho,he,hl⟩
theorem L6{P:Program}{K:Nat}{xs ys:Array Value}{hp:Hp}{F:ah}{β:Type}{Q:β→ah→Prop}(d:Nat){g:Option Bool×Unit→Sem β}:∀(fs:List Field) (ws:List Nat) (o:Nat) (us bs:List Int),Lay P K fs ws o→us.length=ws.sum→bs.length=ws.sum→Part xs o (us.map nI)→Part ys o (bs.map nI)→
  tr P hp ((
            forIn fs (
            (none,()):Option Bool×Unit) fun f __s=>
         if f.name≠ "_" then
          (
           part f.type xs f.offset).bind fun __do_lift=>
           (
            part f.type ys f.offset).bind fun __do_lift_1=>
            (
             Op.equalIn (d+K) f.type __do_lift __do_lift_1).bind fun __do_lift=>
             if(!__do_lift)=true then Sem.pure (ForInStep.done (some false,()))
             else Sem.pure (ForInStep.yield (none,()))
         else Sem.pure (ForInStep.yield (none,()))).bind g) F Q=tr P hp (g (if us=bs then(none,())else(some false,()))) F Q
 | [],[],o,us,bs,_,h1,h2,h3,h4=>by
  have e1:us=[]:=List.length_eq_zero_iff.1 (by simpa using h1)
  have e2:bs=[]:=List.length_eq_zero_iff.1 (by simpa using h2)
  subst e1 e2
  simp only[List.forIn_nil,au,bind_pure,if_true]
 | f::fs,w::ws,o,us,bs,hl,h1,h2,h3,h4=>by
  obtain⟨hn,ho,he,hl⟩:=hl
  simp only[List.sum_cons]at h1 h2
  obtain⟨p1,p2⟩:=h3.two (w:=w) (by omega)
  obtain⟨q1,q2⟩:=h4.two (w:=w) (by omega)
  have e1:(us.take w).length=w:=by simp;omega
  have e2:(bs.take w).length=w:=by simp;omega
  subst ho
  simp only[List.forIn_cons,bind_eq,if_pos hn,bind_assoc]
  rw[he d e1 e2 p1 q1]
  by_cases hc:us.take w=bs.take w
  ·simp only[hc,decide_true,Bool.not_true,Bool.false_eq_true,if_false,bind_pure]
   rw[L6 d fs ws _ (us.drop w) (bs.drop w) hl (by simp;omega) (by simp;omega) p2 q2]
   by_cases hd:us.drop w=bs.drop w
   ·rw[if_pos hd,if_pos (EN hc hd)]
   ·rw[if_neg hd,if_neg (fun h=>hd (by rw[h]))]
  ·simp only[hc,decide_false,Bool.not_false,if_true,bind_pure]
   rw[if_neg (fun h=>hc (by rw[h]))]
   simp only[au,bind_pure]
 | [],_::_,_,_,_,hl,_,_,_,_=>hl.elim
 | _::_,[],_,_,_,hl,_,_,_,_=>hl.elim

theorem V7.struct{P:Program}{t:TypeId}{fs:Array Field}{ws:List Nat}{K:Nat}[TD P t (.struct fs)][n:NS P t](hl:Lay P K fs.toList ws 0):V7 P t ws.sum (K+1):=by
 intro hp F β f Q d us bs h1 h2
 have hs:=n.stood
 show tr P hp ((Op.equalIn (d+K+1) t _ _).bind f) F Q=_
 simp only[Op.equalIn,bind_eq,au,bind_assoc,bind_pure,aC,program,Sem.bind,tr,hs,Bool.false_eq_true,if_false]
 rw[←Array.forIn_toList,L6 d fs.toList ws 0 us bs hl h1 h2 (Part.all _) (Part.all _)]
 by_cases h:us=bs <;>simp[h,bind_pure]

theorem Qd{P:Program}{E w K:Nat}{xs ys:Array Value}{hp:Hp}{F:ah}{β:Type}{Q:β→ah→Prop}(he:EqAt P E w K)(d:Nat){g:Option Bool×Unit→Sem β}:∀(n i:Nat) (us bs:List Int),us.length=n*w→bs.length=n*w→Part xs (i*w) (us.map nI)→Part ys (i*w) (bs.map nI)→
  tr P hp ((
       forIn (List.range' i n) ((none,()):Option Bool×Unit) fun i __s=>
      (
       part E xs (i*w)).bind fun __do_lift=>
       (
        part E ys (i*w)).bind fun __do_lift_1=>
        (
         Op.equalIn (d+K) E __do_lift __do_lift_1).bind fun __do_lift=>
         if(!__do_lift)=true then Sem.pure (ForInStep.done (some false,()))
         else Sem.pure (ForInStep.yield (none,()))).bind g) F Q=tr P hp (g (if us=bs then(none,())else(some false,()))) F Q
 | 0,i,us,bs,h1,h2,h3,h4=>by
  have e1:us=[]:=List.length_eq_zero_iff.1 (by simpa using h1)
  have e2:bs=[]:=List.length_eq_zero_iff.1 (by simpa using h2)
  subst e1 e2
  simp only[List.range'_zero,List.forIn_nil,au,bind_pure,if_true]
 | n+1,i,us,bs,h1,h2,h3,h4=>by
  rw[Nat.succ_mul]at h1 h2
  obtain⟨p1,p2⟩:=h3.two (w:=w) (by omega)
  obtain⟨q1,q2⟩:=h4.two (w:=w) (by omega)
  have e1:(us.take w).length=w:=by simp;omega
  have e2:(bs.take w).length=w:=by simp;omega
  have e3:i*w+w=(i+1)*w:=by rw[Nat.succ_mul]
  rw[e3]at p2 q2
  simp only[List.range'_succ,List.forIn_cons,bind_eq,bind_assoc]
  rw[he d e1 e2 p1 q1]
  by_cases hc:us.take w=bs.take w
  ·simp only[hc,decide_true,Bool.not_true,Bool.false_eq_true,if_false,bind_pure]
   rw[Qd he d n (i+1) (us.drop w) (bs.drop w) (by simp;omega) (by simp;omega) p2 q2]
   by_cases hd:us.drop w=bs.drop w
   ·rw[if_pos hd,if_pos (EN hc hd)]
   ·rw[if_neg hd,if_neg (fun h=>hd (by rw[h]))]
  ·simp only[hc,decide_false,Bool.not_false,if_true,bind_pure]
   rw[if_neg (fun h=>hc (by rw[h]))]
   simp only[au,bind_pure]

theorem V7.array{P:Program}{t n E w K:Nat}{s:Nat}{z:Value}{zc:Array Value}[TD P t (.array n E)][TI P E w s z zc](he:EqAt P E w K):V7 P t (n*w) (K+1):=by
 intro hp F β f Q d us bs h1 h2
 show tr P hp ((Op.equalIn (d+K+1) t _ _).bind f) F Q=_
 simp only[Op.equalIn,bind_eq,au,bind_assoc,bind_pure,aC,dH]
 rw[Std.Legacy.Range.forIn_eq_forIn_range']
 have e:(Std.Legacy.Range.size [:n])=n:=by simp[Std.Legacy.Range.size]
 rw[e]
 refine(Qd he d n 0 us bs h1 h2 (by rw[Nat.zero_mul];exact Part.all _) (by rw[Nat.zero_mul];exact Part.all _)).trans ?_
 by_cases h:us=bs <;>simp[h,bind_pure]

class EV(P:Program)(t:TypeId)(w:outParam Nat):Prop where
 out:V7 P t w 9
theorem V7.le{P:Program}{t w K K':Nat}(H:V7 P t w K)(h:K≤K'):V7 P t w K':=by
 intro hp F β f Q d us bs h1 h2
 have:= @H hp F β f Q (d+(K'-K)) us bs h1 h2
 rwa[show d+(K'-K)+K=d+K' by omega]at this

section rules
variable{x:Cx}{ρ:Env}{F:ah}{S:ah→Prop}{o:Oper}{R:Value→ah→Prop}
theorem X7{P:Program}{t w:Nat}[v:EV P t w]{h:Hp}{F:ah}{β:Type}{f:Bool→Sem β}{Q:β→ah→Prop}{us bs:List Int}(h1:us.length=w)(h2:bs.length=w):tr P h ((Op.equal t (.agg (us.map nI).toArray) (.agg (bs.map nI).toArray)).bind f) F Q=tr P h (f (decide (us=bs))) F Q:=by
 have e:Op.equal t (.agg (us.map nI).toArray) (.agg (bs.map nI).toArray)=Op.equalIn (9991+9) t (.agg (us.map nI).toArray) (.agg (bs.map nI).toArray):=rfl
 rw[e]
 exact v.out 9991 h1 h2
theorem adA{t t' w:Nat}{y z:Operand}{u v:Value}(us bs:List Int)(ho:o.op= .binOp .eql t y z t')[EV x.P t w][n:NS x.P t](hy:ev ρ y=some u)(hz:ev ρ z=some v)(hu:u= .agg (us.map nI).toArray)(hv:v= .agg (bs.map nI).toArray)(h1:us.length=w)(h2:bs.length=w):Yv x S ρ o (.bool (decide (us=bs))):=fun e he F hF h' hE=>by
 subst hu hv
 have hg:∀{β:Type} {f:Unit→Sem β} {Q:β→ah→Prop},tr x.P h' ((eqGuard .eql t y z (.agg (us.map nI).toArray) (.agg (bs.map nI).toArray)).bind f) F Q=tr x.P h' (f ()) F Q:=by
  intro β f Q
  simp only[eqGuard,bind_eq,au,bind_assoc,l7,n.guard,Bool.not_false,if_true,bind_pure,Bool.not_true,Bool.false_eq_true,if_false]
 simp only[execOp,ho,he y _ hy,he z _ hz,bind_eq,au,bind_assoc,hg,binOp,X7 h1 h2]
 exact⟨rfl,rfl⟩
end rules
end Go.aS

/- A scope with a label to which the text goes back; arrays of bools beside each other. Conditions: none; over any program. -/
namespace Go.aS
def gq(l:Nat)(K:Env→List Deferred→ah→Prop)(Q:Post):Post:=fun e ρ ds F=>match e with
 | .goto l'=>l'=l∧K ρ ds F
 | e=>Q e ρ ds F
section
variable{K:Env→List Deferred→ah→Prop}{Q:Post}{ρ:Env}{ds:List Deferred}{F:ah}{l:Nat}
theorem ae6(H:Q .ret ρ ds F):gq l K Q .ret ρ ds F:=H
theorem ae7(H:K ρ ds F):gq l K Q (.goto l) ρ ds F:=⟨rfl,H⟩
end
theorem W.abS{x:Cx}{Q:Post}{ρ:Env}{ds:List Deferred}{F:ah}{c R:Code}{l:Nat}(hl:findLabel c l=some (.seq .skip R)){σ:Type}(C:σ→Prop)(Ev:σ→Env)(D:σ→ah)(μ:σ→Nat)
  (round:∀s,C s→W x R (gq l (fun ρ' ds' F'=>ds'=ds∧∃s',C s'∧μ s'<μ s∧Sub (Ev s') ρ'∧Sb (D s') F') Q) (Ev s) ds (D s))
  (first:(∀ρ' F',(∃s',C s'∧Sub (Ev s') ρ'∧Sb (D s') F')→W x R (gq l (fun ρ' ds' F'=>ds'=ds∧∃s',C s'∧Sub (Ev s') ρ'∧Sb (D s') F') Q) ρ' ds F')→W x c (gq l (fun ρ' ds' F'=>ds'=ds∧∃s',C s'∧Sub (Ev s') ρ'∧Sb (D s') F') Q) ρ ds F):W x (.scope c) Q ρ ds F:=by
 have hR:∀ρ' F',(∃s',C s'∧Sub (Ev s') ρ'∧Sb (D s') F')→W x R (gq l (fun ρ' ds' F'=>ds'=ds∧∃s',C s'∧Sub (Ev s') ρ'∧Sb (D s') F') Q) ρ' ds F':=by
  rintro ρ' F' ⟨s',h1,h2,h3⟩
  refine W.env h2 (W.sb h3 ((round s' h1).mono fun e ρ ds F q=>?_))
  cases e with
  | goto l'=>exact⟨q.1,q.2.1,q.2.2.imp fun s' h=>⟨h.1,h.2.2⟩⟩
  | _=>exact q
 have first:=first hR
 clear hR
 intro b k cs Stop tmps hk M h1 h0 h2 h3 h4 h5 hc
 have hex:∀(e:Exit) (tmps:Array Value) (ds:List Deferred) (hk:Hp) (M:Nat→Prop),(∀l,e≠ .goto l)→After x.P x.main Stop b k cs e tmps ds hk M→After x.P x.main Stop b (.inScope c::k) cs e tmps ds hk M:=by
  intro e tmps ds hk M hne h
  cases e with
  | normal=>exact .idle rfl (fun _=>QM) h
  | exit id=>
   have e1:exitTo id (.inScope c::k)=exitTo id k:=by simp[exitTo]
   simp only[After,e1]at h⊢
   exact h
  | goto l=>exact absurd rfl (hne l)
  | ret=>exact h
  | panic ch=>exact h
  | outgrown=>exact h
 have hgt:gotoIn l (.inScope c::k)=some (.code (.seq .skip R):: .inScope c::k):=by simp[gotoIn,hl]
 have key:∀N s,μ s=N→C s→∀tmps hk M,dQ (Ev s) tmps→tmps.size=x.n→Sat x.h (D s) hk M→(∀e ρ' ds' F' aZ hk' M',Q e ρ' ds' F'→dQ ρ' aZ→aZ.size=x.n→Sat x.h F' hk' M'→Fr M (D s) M' F'→After x.P x.main Stop b k cs e aZ ds' hk' M')→
   Gs x.P x.main Stop (G (bW b tmps ds (.code (.seq .skip R):: .inScope c::k)) cs) hk M:=by
  intro N
  induction N using Nat.strongRecOn with
  | _ N ih=>
   intro s hN hs tmps hk M h3 h4 h5 hc
   refine .idle rfl (fun _=>Iz) (.idle rfl (fun _=>MK) (round s hs b (.inScope c::k) cs Stop tmps hk M h1 h0 h2 h3 h4 h5 fun e ρ' ds' F' aZ hk' M' q a1 a2 a3 a4=>?_))
   cases e with
   | goto l'=>
    obtain⟨rfl,rfl,s',c1,c2,c3,c4⟩:=q
    exact .inl ⟨_,hgt,ih (μ s') (hN▸c2) s' rfl c1 aZ hk' M' (a1.sub c3) a2 (a3.sb c4) fun e tC ds₂ kP ng hk₂ jr q₂ e1 e2 e3 e4=>hc e tC ds₂ kP ng hk₂ jr q₂ e1 e2 e3 (a4.trans (e4.sub fun _ y=>c4.mem _ y))⟩
   | normal=>exact hex .normal _ _ _ _ (by simp) (hc _ _ _ _ _ _ _ q a1 a2 a3 a4)
   | exit id=>exact hex (.exit id) _ _ _ _ (by simp) (hc _ _ _ _ _ _ _ q a1 a2 a3 a4)
   | ret=>exact hex .ret _ _ _ _ (by simp) (hc _ _ _ _ _ _ _ q a1 a2 a3 a4)
   | panic ch=>exact hex (.panic ch) _ _ _ _ (by simp) (hc _ _ _ _ _ _ _ q a1 a2 a3 a4)
   | outgrown=>exact hex .outgrown _ _ _ _ (by simp) (hc _ _ _ _ _ _ _ q a1 a2 a3 a4)
 refine .idle rfl (fun _=>V_) (first b (.inScope c::k) cs Stop tmps hk M h1 h0 h2 h3 h4 h5 fun e ρ' ds' F' aZ hk' M' q a1 a2 a3 a4=>?_)
 cases e with
 | goto l'=>
  obtain⟨rfl,rfl,s',c1,c3,c4⟩:=q
  exact .inl ⟨_,hgt,key _ s' rfl c1 aZ hk' M' (a1.sub c3) a2 (a3.sb c4) fun e tC ds₂ kP ng hk₂ jr q₂ e1 e2 e3 e4=>hc e tC ds₂ kP ng hk₂ jr q₂ e1 e2 e3 (a4.trans (e4.sub fun _ y=>c4.mem _ y))⟩
 | normal=>exact hex .normal _ _ _ _ (by simp) (hc _ _ _ _ _ _ _ q a1 a2 a3 a4)
 | exit id=>exact hex (.exit id) _ _ _ _ (by simp) (hc _ _ _ _ _ _ _ q a1 a2 a3 a4)
 | ret=>exact hex .ret _ _ _ _ (by simp) (hc _ _ _ _ _ _ _ q a1 a2 a3 a4)
 | panic ch=>exact hex (.panic ch) _ _ _ _ (by simp) (hc _ _ _ _ _ _ _ q a1 a2 a3 a4)
 | outgrown=>exact hex .outgrown _ _ _ _ (by simp) (hc _ _ _ _ _ _ _ q a1 a2 a3 a4)

/-! ### Arrays of bools. -/
def Gf(l:List Bool):List Value:=l.map Value.bool
theorem ae8{P:Program}{E:Nat}[TD P E .bool]{hp:Hp}{F:ah}{β:Type}{f:Bool→Sem β}{Q:β→ah→Prop}{u b:Bool}(d:Nat):tr P hp ((Op.equalIn (d+1) E (.bool u) (.bool b)).bind f) F Q=tr P hp (f (u==b)) F Q:=by
 simp only[Op.equalIn,bind_eq,au,bind_assoc,bind_pure,aC]
theorem L8{P:Program}{E:Nat}[TD P E .bool][SC P E]{xs ys:Array Value}{hp:Hp}{F:ah}{β:Type}{Q:β→ah→Prop}(d:Nat){g:Option Bool×Unit→Sem β}:∀(n i:Nat) (us bs:List Bool),us.length=n→bs.length=n→Part xs i (Gf us)→Part ys i (Gf bs)→
  tr P hp ((
       forIn (List.range' i n) ((none,()):Option Bool×Unit) fun i __s=>
      (
       part E xs (i*1)).bind fun __do_lift=>
       (
        part E ys (i*1)).bind fun __do_lift_1=>
        (
         Op.equalIn (d+1) E __do_lift __do_lift_1).bind fun __do_lift=>
         if(!__do_lift)=true then Sem.pure (ForInStep.done (some false,()))
         else Sem.pure (ForInStep.yield (none,()))).bind g) F Q=tr P hp (g (if us=bs then(none,())else(some false,()))) F Q
 | 0,i,us,bs,h1,h2,h3,h4=>by
  have e1:us=[]:=List.length_eq_zero_iff.1 (by simpa using h1)
  have e2:bs=[]:=List.length_eq_zero_iff.1 (by simpa using h2)
  subst e1 e2
  simp only[List.range'_zero,List.forIn_nil,au,bind_pure,if_true]
 | n+1,i,u::us,b::bs,h1,h2,h3,h4=>by
  have e1:xs[i*1]? =some (.bool u):=by rw[Nat.mul_one];exact h3.get (j:=0) (by simp[Gf])
  have e2:ys[i*1]? =some (.bool b):=by rw[Nat.mul_one];exact h4.get (j:=0) (by simp[Gf])
  have p3:Part xs (i+1) (Gf us):=by
   have:=Part.sub (c:=xs) (off:=i) (a:=[.bool u]) (b:=Gf us) (d:=[]) (by simpa[Gf]using h3)
   simpa using this
  have p4:Part ys (i+1) (Gf bs):=by
   have:=Part.sub (c:=ys) (off:=i) (a:=[.bool b]) (b:=Gf bs) (d:=[]) (by simpa[Gf]using h4)
   simpa using this
  simp only[List.range'_succ,List.forIn_cons,bind_eq,bind_assoc]
  rw[lT e1,lT e2,ae8]
  by_cases hc:u=b
  ·subst hc
   simp only[beq_self_eq_true,Bool.not_true,Bool.false_eq_true,if_false,bind_pure]
   rw[L8 d n (i+1) us bs (by simpa using h1) (by simpa using h2) p3 p4]
   by_cases hd:us=bs <;>simp[hd]
  ·have:(u==b)=false:=by simpa using hc
   simp only[this,Bool.not_false,if_true,bind_pure,List.cons.injEq,hc,false_and,if_false,au]
theorem X8{P:Program}{t n E b:Nat}{z:Value}{zc:Array Value}[TD P t (.array n E)][TD P E .bool][SC P E][TI P E 1 b z zc]{hp:Hp}{F:ah}{β:Type}{f:Bool→Sem β}{Q:β→ah→Prop}{us bs:List Bool}(d D:Nat)(hD:D=d+1)(h1:us.length=n)(h2:bs.length=n):
  tr P hp ((Op.equalIn (D+1) t (.agg (Gf us).toArray) (.agg (Gf bs).toArray)).bind f) F Q=tr P hp (f (decide (us=bs))) F Q:=by
 simp only[Op.equalIn,bind_eq,au,bind_assoc,bind_pure,aC,dH]
 rw[Std.Legacy.Range.forIn_eq_forIn_range']
 have e:(Std.Legacy.Range.size [:n])=n:=by simp[Std.Legacy.Range.size]
 rw[e]
 subst hD
 refine(L8 (P:=P) (E:=E) d n 0 us bs h1 h2 (Part.all _) (Part.all _)).trans ?_
 by_cases h:us=bs <;>simp[h,bind_pure]
theorem aaf{P:Program}{t n E b:Nat}{z:Value}{zc:Array Value}[TD P t (.array n E)][TD P E .bool][SC P E][TI P E 1 b z zc]{hp:Hp}{F:ah}{β:Type}{f:Bool→Sem β}{Q:β→ah→Prop}{us bs:List Bool}(h1:us.length=n)(h2:bs.length=n):
  tr P hp ((Op.equal t (.agg (Gf us).toArray) (.agg (Gf bs).toArray)).bind f) F Q=tr P hp (f (decide (us=bs))) F Q:=by
 obtain⟨d,e⟩:∃d,Op.equal t (.agg (Gf us).toArray) (.agg (Gf bs).toArray)=Op.equalIn (d+1+1) t (.agg (Gf us).toArray) (.agg (Gf bs).toArray):=⟨9998,rfl⟩
 rw[e]
 exact X8 d _ rfl h1 h2
section
variable{x:Cx}{ρ:Env}{S:ah→Prop}{o:Oper}
theorem aa8{t t' n E b:Nat}{z':Value}{zc:Array Value}{y z:Operand}{u v:Value}(us bs:List Bool)(ho:o.op= .binOp .neq t y z t')[TD x.P t (.array n E)][TD x.P E .bool][SC x.P E][TI x.P E 1 b z' zc][ns:NS x.P t](hy:ev ρ y=some u)(hz:ev ρ z=some v)(hu:u= .agg (Gf us).toArray)(hv:v= .agg (Gf bs).toArray)(h1:us.length=n)(h2:bs.length=n):Yv x S ρ o (.bool (!decide (us=bs))):=fun e he F hF h' hE=>by
 subst hu hv
 have hg:∀{β:Type} {f:Unit→Sem β} {Q:β→ah→Prop},tr x.P h' ((eqGuard .neq t y z (.agg (Gf us).toArray) (.agg (Gf bs).toArray)).bind f) F Q=tr x.P h' (f ()) F Q:=by
  intro β f Q
  simp only[eqGuard,bind_eq,au,bind_assoc,l7,ns.guard,Bool.not_false,if_true,bind_pure,Bool.not_true,Bool.false_eq_true,if_false]
 simp only[execOp,ho,he y _ hy,he z _ hz,bind_eq,au,bind_assoc,hg,binOp,aaf h1 h2]
 exact⟨rfl,rfl⟩
end
end Go.aS

/- Arrays of bools, one for each quality. Conditions: none. -/
namespace Go.aS
set_option linter.unusedVariables false
def bL(f:Nat→Bool):List Bool:=(List.range 13).map f
def bA(f:Nat→Bool):Array Value:=(Gf (bL f)).toArray
theorem Oe{f:Nat→Bool}:(bL f).length=13:=by simp[bL]
theorem nX{f:Nat→Bool}:(bA f).size=13:=by simp[bA,Gf,bL]
theorem L9{f:Nat→Bool}{k:Nat}(hk:k<13):(bA f)[k]? =some (.bool (f k)):=by simp[bA,Gf,bL,hk]
theorem Qe{f g:Nat→Bool}(h:∀i,i<13→f i=g i):bL f=bL g:=List.map_congr_left fun i hi=>h i (List.mem_range.1 hi)
theorem qg{f g:Nat→Bool}(h:∀i,i<13→f i=g i):bA f=bA g:=by rw[bA,bA,Qe h]
theorem Og{f:Nat→Bool}{k:Nat}{b:Bool}(hk:k<13):(bA f).setIfInBounds k (.bool b)=bA fun i=>if i=k then b else f i:=by
 apply Array.ext
 ·simp[nX]
 ·intro i h1 h2
  rw[nX]at h2
  have e2:=L9 (f:=fun i=>if i=k then b else f i) h2
  have e1:=L9 (f:=f) h2
  rw[Array.getElem?_eq_getElem (by rw[nX];exact h2)]at e1 e2
  rw[Option.some.inj e2,Array.getElem_setIfInBounds]
  by_cases h:i=k
  ·subst h;simp
  ·rw[if_neg (Ne.symm h),if_neg h];exact Option.some.inj e1
  ·rw[nX];exact h2
theorem Un{f:Nat→Bool}:ones (bA f).toList=true:=by
 have:∀l:List Bool,ones (Gf l)=true:=fun l=>by
  induction l with
  | nil=>rfl
  | cons a l ih=>simpa[Gf,ones,one]using ih
 simpa[bA]using this (bL f)
theorem abT{f g:Nat→Bool}:bL f=bL g↔∀i,i<13→f i=g i:=by
 constructor
 ·intro h i hi
  have:=congrArg (fun l=>l.getD i false) h
  simpa[bL,List.getD,hi]using this
 ·exact Qe
def GZ(ps:List Pn)(c:Nat)(now:Nat→Bool):Nat→Bool:=fun q=>(bQ ps c q).any fun i=>now (gy ps i q)
theorem JV{ps:List Pn}{c n:Nat}:bL (fun k=>dD (dO ps c) n k)=fE (dO ps c) n:=rfl
theorem Vp{ps:List Pn}{c n:Nat}:GZ ps c (fun k=>dD (dO ps c) n k)=fun k=>dD (dO ps c) (n+1) k:=by
 funext k
 show _=(dO ps c k).any _
 rw[dO,List.any_map]
 rfl
end Go.aS

/- From where syrups go round for ever. Conditions: none; over the given program. -/
namespace Go.aS
set_option maxRecDepth 100000
set_option maxHeartbeats 4000000
instance:NS prog aP:=⟨by kernel_rfl,by kernel_rfl⟩
theorem Sb.eq{A B:ah}(h:A=B):Sb A B:=h▸ .refl
theorem eqc{b:Nat}{c c':Array Value}{t:TypeId}{z:Nat×Nat}{R:ah}(h:c=c'):((b,Obj.cells c t z)::R)=(b,.cells c' t z)::R:=h▸rfl

theorem Uo(main:Side)(h:Hp)(ps:List Pn)(vp:Value)(c:Nat)(hf:Sl h Pn.row vp ps)(hok:iP ps)(hc:c<16):Pu prog main pU #[xJ vp c] h (.agg (bA fun k=>dD (dO ps c) 13 k)):=by
 obtain⟨a,cap,rfl⟩:=hf.dA
 refine dV.aG yK rfl (by show 1≤42;decide) [(0,xJ (.slice a ps.length cap) c)] ⟨rfl,trivial⟩ ?_
 refine W.seq<|W.region rfl ?_
 refine Ops.box (cs:= #[.slice a ps.length cap,U8 c]) (fun β1=>?_)
 refine Ops.new (fun yR=>?_)
 refine pq ?_
 refine W.abS (l:=0) rfl (σ:=Nat×Nat) (fun s=>(fE (dO ps c) s.1).count true+s.1≤13) (fun s=>[(1,.pointer (some ⟨β1,0,none⟩)),(2,.pointer (some ⟨yR,0,none⟩)),(3,.pointer (some ⟨s.2,0,none⟩))])
  (fun s=>[(s.2,.cells (bA fun k=>dD (dO ps c) s.1 k) aP (0,0)),(yR,.cells (bA fun _=>false) aP (0,0)),(β1,.cells #[.slice a ps.length cap,U8 c] bG (0,0))]) (fun s=>(fE (dO ps c) s.1).count true) ?_ ?_
 ·rintro⟨n,uU⟩ hC
  replace hC:(fE (dO ps c) n).count true+n≤13:=hC
  refine W.env (ρ':=[(1,.pointer (some ⟨β1,0,none⟩)),(2,.pointer (some ⟨yR,0,none⟩)),(3,.pointer (some ⟨uU,0,none⟩))]) ⟨rfl,rfl,rfl,trivial⟩ ?_
  refine W.sb (F':=[(uU,.cells (bA fun k=>dD (dO ps c) n k) aP (0,0)),(yR,.cells (bA fun _=>false) aP (0,0)),(β1,.cells #[.slice a ps.length cap,U8 c] bG (0,0))]) .refl ?_
  refine W.seq<|W.region rfl ?_
  refine Ops.new (fun mZ=>?_)
  refine pq<|W.seq ?_
  refine W.label ?_
  refine aA<|W.seq<|W.seq<|W.region rfl<|qm rfl rfl rfl<|pq<|W.block ?_
  refine W.loop (σ:=Nat) (fun q=>q≤13) (fun q=>[(15,I q),(1,.pointer (some ⟨β1,0,none⟩)),(2,.pointer (some ⟨yR,0,none⟩)),(3,.pointer (some ⟨uU,0,none⟩)),(5,.pointer (some ⟨mZ,0,none⟩))]) (fun q=>[(mZ,.cells (bA fun i=>decide (i<q)&&GZ ps c (fun k=>dD (dO ps c) n k) i) aP (0,0)),(uU,.cells (bA fun k=>dD (dO ps c) n k) aP (0,0)),(yR,.cells (bA fun _=>false) aP (0,0)),(β1,.cells #[.slice a ps.length cap,U8 c] bG (0,0))]) (fun q=>13-q) 0 (Nat.zero_le _) ⟨rfl,rfl,rfl,rfl,rfl,trivial⟩ ?_ ?_
  ·exact .eq (eqc ((qg (g:=fun _=>false) fun j hj=>by simp).trans rfl))
  rintro q hq
  refine W.seq<|W.region rfl ?_
  refine agW (fO rfl rfl rfl) rfl ?_
  refine pq<|W.seq ?_
  refine W.bC rfl (fun c16=>?_) (fun c16=>?_)
  ·have Dn:q<13:=by omega
   refine W.skip<|aA<|W.seq<|W.block<|W.seq<|W.region rfl<|qm rfl rfl rfl<|agb rfl rfl rfl<|pq ?_
   refine W.seq<|W.region rfl ?_
   refine ag2 rfl ?_
   refine qm rfl rfl rfl ?_
   refine c0 (fun h' hE hL=>EM _ h' ps _ c q (hf.ext hE) hok.len hc) (fun v A' hv=>?_)
   obtain⟨S,hS,hsb⟩:=hv
   refine Ops.sb (F':=[(mZ,.cells (bA fun i=>decide (i<q)&&GZ ps c (fun k=>dD (dO ps c) n k) i) aP (0,0)),(uU,.cells (bA fun k=>dD (dO ps c) n k) aP (0,0)),(yR,.cells (bA fun _=>false) aP (0,0)),(β1,.cells #[.slice a ps.length cap,U8 c] bG (0,0))]++S) (.trans (.dF (List.perm_append_comm (l₁:=[(mZ,.cells (bA fun i=>decide (i<q)&&GZ ps c (fun k=>dD (dO ps c) n k) i) aP (0,0)),(uU,.cells (bA fun k=>dD (dO ps c) n k) aP (0,0)),(yR,.cells (bA fun _=>false) aP (0,0)),(β1,.cells #[.slice a ps.length cap,U8 c] bG (0,0))]) (l₂:=S))) (hsb.app .refl)) ?_
   obtain⟨a2,cap2,rfl⟩:=hS.dA
   rw[kT]at hS⊢
   refine agW (dM rfl rfl) rfl ?_
   refine qm rfl rfl rfl<|pq<|W.block ?_
   refine W.loop (σ:=Nat) (fun k=>k≤(bQ ps c q).length∧((bQ ps c q).take k).any (fun i=>dD (dO ps c) n (gy ps i q))=false) (fun k=>[(22,I k),(21,I (bQ ps c q).length),(20,.slice a2 (bQ ps c q).length cap2),(6,I q),(15,I q),(1,.pointer (some ⟨β1,0,none⟩)),(2,.pointer (some ⟨yR,0,none⟩)),(3,.pointer (some ⟨uU,0,none⟩)),(5,.pointer (some ⟨mZ,0,none⟩))])
    (fun _=>[(mZ,.cells (bA fun i=>decide (i<q)&&GZ ps c (fun k=>dD (dO ps c) n k) i) aP (0,0)),(uU,.cells (bA fun k=>dD (dO ps c) n k) aP (0,0)),(yR,.cells (bA fun _=>false) aP (0,0)),(β1,.cells #[.slice a ps.length cap,U8 c] bG (0,0))]++S) (fun k=>(bQ ps c q).length-k) 0 ⟨Nat.zero_le _,by simp⟩ ⟨rfl,rfl,rfl,rfl,rfl,rfl,rfl,rfl,rfl,trivial⟩ .refl ?_
   rintro k ⟨hk,hany⟩
   have hol:(bQ ps c q).length≤4:=wB
   refine W.seq<|W.region rfl ?_
   refine agW (fO rfl rfl rfl) rfl ?_
   refine pq<|W.seq ?_
   refine W.bC rfl (fun c23=>?_) (fun c23=>?_)
   ·have hkl:k<(bQ ps c q).length:=by omega
    obtain⟨i,hp,hdr⟩:=has hkl
    have hi:=EL (List.mem_of_getElem? hp)
    have ho:gy ps i q<13:=AZ
    have hb':(bA fun k=>dD (dO ps c) n k)[0+gy ps i q*1]? =some (.bool (dD (dO ps c) n (gy ps i q))):=by rw[show 0+gy ps i q*1=gy ps i q by omega];exact L9 ho
    have hsz:0+q*1<(bA fun i=>decide (i<q)&&GZ ps c (fun k=>dD (dO ps c) n k) i).size:=by rw[nX];omega
    rcases id hS with⟨he,-⟩ | ⟨β,cc,cap',J,he,rfl,hcs,hle,hpt,hJ⟩
    ·rw[zs,List.map_eq_nil_iff]at he
     rw[he]at hkl;cases hkl
    rw[kT]at he
    cases he
    have hcv:cc[0+k*1]? =some (I i):=Part.Bo hpt (i:=k) (p:=(i:Int)) (by rw[zs,List.getElem?_map,hp];rfl) 0 (by decide)
    refine W.skip<|aA<|W.seq<|W.block<|W.seq<|W.region rfl ?_
    refine ag3 rfl ?_
    refine agX rfl ?_
    refine agb rfl rfl rfl<|pq<|W.seq<|W.region rfl ?_
    refine agY rfl ?_
    refine ag2 rfl ?_
    refine qm rfl rfl rfl<|qm rfl rfl rfl ?_
    refine cp (fun h' hE hL=>Dl _ h' ps _ i q (hf.ext hE) hok hi Dn) ?_
    first | refine agW (UN rfl rfl rfl) rfl ?_ | refine agW (Qg rfl rfl rfl) rfl ?_
    refine agX rfl ?_
    refine pq ?_
    refine W.cond rfl (fun c32=>?_) (fun c32=>?_)
    ·refine W.seq<|W.region rfl<|qm rfl rfl rfl ?_
     first | refine agW (UN rfl rfl rfl) rfl ?_ | refine agW (Qg rfl rfl rfl) rfl ?_
     refine Ops.yG ?_
     refine pq<|W.exit<|Tt<|bP<|bP<|Tt<|gG<|aA<|W.region rfl ?_
     refine ag1 rfl ?_
     refine qm rfl rfl rfl<|pq ?_
     refine⟨rfl,q+1,Dn,by omega,⟨rfl,rfl,rfl,rfl,rfl,trivial⟩,.right (B:=[_,_,_,_]) (C:=(β,_)::J) (.eq ?_) (.cons rfl hJ)⟩
     rw[show 0+q*1=q by omega,Og Dn]
     refine eqc (qg fun j hj=>?_)
     by_cases hjq:j=q
     ·subst hjq
      have:GZ ps c (fun k=>dD (dO ps c) n k) j=true:=List.any_eq_true.2 ⟨i,List.mem_of_getElem? hp,c32⟩
      simp[this]
     ·rw[if_neg hjq]
      rw[show decide (j<q+1)=decide (j<q)from decide_eq_decide.2 (by omega)]
    ·refine W.skip<|dI<|aA<|W.region rfl ?_
     refine ag1 rfl ?_
     refine qm rfl rfl rfl<|pq ?_
     refine⟨rfl,k+1,⟨hkl,?_⟩,by omega,⟨rfl,rfl,rfl,rfl,rfl,rfl,rfl,rfl,rfl,trivial⟩,.refl⟩
     rw[List.take_add_one,hp,List.any_append,hany]
     simpa using c32
   ·refine W.exit<|bP<|bP<|gG<|dI<|aA<|W.region rfl ?_
    refine ag1 rfl ?_
    refine qm rfl rfl rfl<|pq ?_
    obtain rfl:k=(bQ ps c q).length:=by omega
    rw[List.take_length]at hany
    refine⟨rfl,q+1,Dn,by omega,⟨rfl,rfl,rfl,rfl,rfl,trivial⟩,.right (B:=[_,_,_,_]) (C:=S) (.eq ?_) (hS.shut)⟩
    refine eqc (qg fun j hj=>?_)
    by_cases hjq:j=q
    ·subst hjq
     have:GZ ps c (fun k=>dD (dO ps c) n k) j=false:=hany
     simp[this]
    ·rw[show decide (j<q+1)=decide (j<q)from decide_eq_decide.2 (by omega)]
  ·obtain rfl:q=13:=by omega
   refine W.sb (F':=[(mZ,.cells (bA fun k=>dD (dO ps c) (n+1) k) aP (0,0)),(uU,.cells (bA fun k=>dD (dO ps c) n k) aP (0,0)),(yR,.cells (bA fun _=>false) aP (0,0)),(β1,.cells #[.slice a ps.length cap,U8 c] bG (0,0))]) (.eq ?_) ?_
   ·refine eqc (qg fun j hj=>?_)
    rw[Vp];simp[hj]
   have hs1:(bA fun k=>dD (dO ps c) (n+1) k).size=13:=nX
   have hs2:(bA fun k=>dD (dO ps c) n k).size=13:=nX
   have hs3:(bA fun _=>false).size=13:=nX
   have ho1:ones (bA fun k=>dD (dO ps c) (n+1) k).toList=true:=Un
   have ho2:ones (bA fun k=>dD (dO ps c) n k).toList=true:=Un
   refine W.exit<|bP<|bP<|gG<|aA<|W.seq<|W.seq<|W.region rfl ?_
   refine ag2 rfl ?_
   refine ag2 rfl ?_
   refine agW (aa8 (bL fun k=>dD (dO ps c) (n+1) k) (bL fun k=>dD (dO ps c) n k) rfl rfl rfl rfl rfl Oe Oe) rfl ?_
   refine pq ?_
   refine W.cond rfl (fun Ic=>?_) (fun Ic=>?_)
   ·refine W.seq<|W.region rfl ?_
    refine ag2 rfl ?_
    first | refine Ops.jP ?_ | refine Ops.nY ?_
    refine pq ?_
    refine W.goto ?_
    refine WC ?_
    refine ae7 ?_
    have hne:fE (dO ps c) (n+1)≠fE (dO ps c) n:=by
     intro hh
     rw[JV,JV,hh]at Ic
     simp at Ic
    have hlt:=GY.2 hne
    exact⟨rfl,(n+1,uU),by show(fE (dO ps c) (n+1)).count true+(n+1)≤13;omega,hlt,⟨rfl,rfl,rfl,trivial⟩,.skip rfl .refl⟩
   ·refine W.skip<|aA<|W.seq<|W.region rfl ?_
    refine ag2 rfl ?_
    first | refine Ops.jP ?_ | refine Ops.nY ?_
    refine pq<|W.ret ?_
    refine ae6 ?_
    have heq:fE (dO ps c) (n+1)=fE (dO ps c) n:=by
     refine Classical.byContradiction fun hh=>?_
     rw[JV,JV,decide_eq_false hh]at Ic
     cases Ic
    have hl:=Ul F9 heq (by omega)
    refine QJ (hv:=D_ zJ) ⟨?_,.cons rfl (.cons rfl (.cons rfl (.cons rfl .nil)))⟩
    show Value.agg (bA _)=_
    rw[bA,bA,JV,hl];rfl
 ·intro hR
  refine W.seq<|W.region rfl ?_
  refine Ops.new (fun uU=>?_)
  refine pq<|W.seq<|W.seq<|W.region rfl<|qm rfl rfl rfl<|pq<|W.block ?_
  refine W.loop (σ:=Nat) (fun k=>k≤13) (fun k=>[(9,I k),(1,.pointer (some ⟨β1,0,none⟩)),(2,.pointer (some ⟨yR,0,none⟩)),(3,.pointer (some ⟨uU,0,none⟩))]) (fun k=>[(uU,.cells (bA fun i=>decide (i<k)) aP (0,0)),(yR,.cells (bA fun _=>false) aP (0,0)),(β1,.cells #[.slice a ps.length cap,U8 c] bG (0,0))]) (fun k=>13-k) 0 (Nat.zero_le _) ⟨rfl,rfl,rfl,rfl,trivial⟩ .refl ?_
  rintro k hk
  refine W.seq<|W.region rfl ?_
  refine agW (fO rfl rfl rfl) rfl ?_
  refine pq<|W.seq ?_
  refine W.bC rfl (fun c10=>?_) (fun c10=>?_)
  ·have Vq:k<13:=by omega
   have hsz:0+k*1<(bA fun i=>decide (i<k)).size:=by rw[nX];omega
   refine W.skip<|aA<|W.seq<|W.block<|W.seq<|W.region rfl<|qm rfl rfl rfl<|agb rfl rfl rfl<|pq ?_
   refine W.region rfl<|qm rfl rfl rfl ?_
   first | refine agW (UN rfl rfl rfl) rfl ?_ | refine agW (Qg rfl rfl rfl) rfl ?_
   refine Ops.yG ?_
   refine Ops.nil<|dI<|aA<|W.region rfl ?_
   refine ag1 rfl ?_
   refine qm rfl rfl rfl<|pq ?_
   refine⟨rfl,k+1,Vq,by omega,⟨rfl,rfl,rfl,rfl,trivial⟩,.eq ?_⟩
   rw[show 0+k*1=k by omega,Og Vq]
   refine eqc (qg fun i hi=>?_)
   by_cases hik:i=k
   ·subst hik;simp
   ·rw[if_neg hik];exact decide_eq_decide.2 (by omega)
  ·refine W.exit<|bP<|bP<|gG<|aA<|W.seq ?_
   refine W.label ?_
   refine aA ?_
   obtain rfl:k=13:=by omega
   refine hR _ _ ⟨(0,uU),by simp[Uk],⟨rfl,rfl,rfl,trivial⟩,.eq ?_⟩
   refine eqc (qg fun i hi=>?_)
   show dD _ 0 i=_
   simp[dD,P7,hi]
end Go.aS

/- errors.As, at the package's own error. Conditions: none; over the given program. -/
namespace Go.aS
set_option maxRecDepth 100000
set_option maxHeartbeats 4000000
open Go.Extern
abbrev Qh:Array Value→Sem Value:=fun args=>ReflectliteValue.unpack (args.getD 0 (.tuple #[]))
abbrev xType:Array Value→Sem Value:=ReflectliteValue.methodAny (ReflectliteValue.valueError "reflectlite.Value.Type" 0) fun t _ _ _=>ReflectliteType.toType t
abbrev X9:Array Value→Sem Value:=ReflectliteValue.method (ReflectliteValue.valueError "reflectlite.Value.IsNil" 0) ReflectliteValue.isNil
abbrev X_:Array Value→Sem Value:=ReflectliteValue.method (ReflectliteValue.valueError "reflectlite.Value.Elem" 0) ReflectliteValue.elem
abbrev adB:Array Value→Sem Value:=ReflectliteType.abiMethod fun t=>do pure (.int .u8 (←Rtype.kind t))
instance:XF prog oD Qh:=⟨oG,xk,by kernel_rfl,by kernel_rfl,by kernel_rfl,by kernel_rfl⟩
instance:XF prog kX xType:=⟨kY,sQ,by kernel_rfl,by kernel_rfl,by kernel_rfl,by kernel_rfl⟩
instance:XF prog kG X9:=⟨kH,rX,by kernel_rfl,by kernel_rfl,by kernel_rfl,by kernel_rfl⟩
instance:XF prog lD X_:=⟨lF,sW,by kernel_rfl,by kernel_rfl,by kernel_rfl,by kernel_rfl⟩
instance:XF prog mJ ReflectliteValue.set:=⟨mM,uQ,by kernel_rfl,by kernel_rfl,by kernel_rfl,by kernel_rfl⟩
instance:XF prog pW ReflectliteType.typeOf:=⟨pX,yO,by kernel_rfl,by kernel_rfl,by kernel_rfl,by kernel_rfl⟩
instance:XF prog iO (ReflectliteType.method ReflectliteType.elem):=⟨lK,tq,by kernel_rfl,by kernel_rfl,by kernel_rfl,by kernel_rfl⟩
instance:XF prog fD (ReflectliteType.relation "Implements" ReflectliteType.implements_):=⟨jf,n_,by kernel_rfl,by kernel_rfl,by kernel_rfl,by kernel_rfl⟩
instance:XF prog eu (ReflectliteType.relation "AssignableTo" ReflectliteType.assignableTo):=⟨iI,mY,by kernel_rfl,by kernel_rfl,by kernel_rfl,by kernel_rfl⟩
instance:XF prog lS adB:=⟨yw,FY,by kernel_rfl,by kernel_rfl,by kernel_rfl,by kernel_rfl⟩

noncomputable abbrev Ur(t:TypeId):Value:=.iface qI (.agg #[typeHandle prog t])
noncomputable abbrev Us(t:TypeId)(a:Addr)(n:Int):Value:=.agg #[typeHandle prog t,.pointer (some a),.int .u64 n]

theorem L_{h:Hp}{F:ah}{t:TypeId}{v:Value}{cs:Array Value}{n:Int}(hc:v.cells=cs)(hm:∀a,J_ prog (ReflectliteValue.mk t a 0)=some (Us t a n)):tr prog h (Qh #[.iface t v]) F (fun r F'=>∃β,r=Us t ⟨β,0,none⟩ n∧F'=(β,.cells cs t (0,0))::F):=by
 show tr prog h (Sem.bind (newVar t v) fun a=>ReflectliteValue.mk t a 0) F _
 simp only[newVar,newRow,bind_eq,au,bind_assoc,bind_pure,hc]
 exact wI fun r _ _=>oU (hm _) ⟨r,rfl,rfl⟩
theorem Ya{h:Hp}{F:ah}{β b:Nat}{c:Array Value}{E:TypeId}{fz:Nat×Nat}(hl:Look h F β (.cells c E fz))(hc:c[0]? =some (.pointer (some ⟨b,0,none⟩))):tr prog h (X9 #[Us bF ⟨β,0,none⟩ 150]) F (fun r F'=>r= .bool false∧F'=F):=by
 show tr prog h (Sem.bind (ReflectliteValue.parts (Us bF ⟨β,0,none⟩ 150)) _) F _
 refine bJ (oU (a:=some (bF,⟨β,0,none⟩,150)) (by kernel_rfl) ?_)
 show tr prog h (Sem.bind (loadVar bF ⟨β,0,none⟩) _) F _
 exact bJ (uw hl hc ⟨rfl,rfl⟩)
theorem Yb{h:Hp}{F:ah}{β b:Nat}{c:Array Value}{E:TypeId}{fz:Nat×Nat}(hl:Look h F β (.cells c E fz))(hc:c[0]? =some (.pointer (some ⟨b,0,none⟩))):tr prog h (X_ #[Us bF ⟨β,0,none⟩ 150]) F (fun r F'=>r=Us aQ ⟨b,0,none⟩ 409∧F'=F):=by
 show tr prog h (Sem.bind (ReflectliteValue.parts (Us bF ⟨β,0,none⟩ 150)) _) F _
 refine bJ (oU (a:=some (bF,⟨β,0,none⟩,150)) (by kernel_rfl) ?_)
 show tr prog h (Sem.bind (loadVar bF ⟨β,0,none⟩) fun v=>Sem.bind (Rtype.elem? bF) fun e=>_) F _
 refine bJ (uw hl hc ?_)
 refine bJ (oU (a:=some aQ) (by kernel_rfl) ?_)
 exact oU (a:=Us aQ ⟨b,0,none⟩ 409) (by kernel_rfl) ⟨rfl,rfl⟩
theorem abU{h:Hp}{F:ah}{b β:Nat}{c vs:Array Value}{E E':TypeId}{fz:Nat×Nat}{U:Obj→ah}(hl:At b (.cells c E (0,0)) F U)(hc:c.size=2)(hs:Look h F β (.cells vs E' fz))(hn:vs.size=2)(h1:ones vs.toList=true):tr prog h (ReflectliteValue.set #[Us aQ ⟨b,0,none⟩ 409,Us aQ ⟨β,0,none⟩ 153]) F (fun r F'=>r= .tuple #[]∧F'=U (.cells vs E (0,0))):=by
 show tr prog h (Sem.bind (ReflectliteValue.parts (Us aQ ⟨b,0,none⟩ 409)) fun p=>Sem.bind (ReflectliteValue.parts (Us aQ ⟨β,0,none⟩ 153)) fun q=>_) F _
 refine bJ (oU (a:=some (aQ,⟨b,0,none⟩,409)) (by kernel_rfl) ?_)
 refine bJ (oU (a:=some (aQ,⟨β,0,none⟩,153)) (by kernel_rfl) ?_)
 show tr prog h (Sem.bind (loadVar aQ ⟨β,0,none⟩) fun val=>Sem.bind (Rtype.directlyAssignable aQ aQ) fun d=>_) F _
 refine bJ (BM (n:=2) hs (by omega) ?_)
 refine bJ (oU (a:=true) (by kernel_rfl) ?_)
 show tr prog h (Sem.bind (storeVar aQ ⟨b,0,none⟩ _) fun _=>.pure (Value.tuple #[])) F _
 have e:vs.extract 0 (0+2)=vs:=by apply Array.ext';simp[←hn]
 have hcs:(Value.agg vs).cells=vs:=rfl
 rw[e]
 simp only[storeVar,bind_eq,au,bind_assoc,bind_pure,o9,hcs,hn,ne_eq,not_true_eq_false,if_false]
 refine bJ (kV vs.toList 0 c h1 hl (by simp;omega) ⟨rfl,?_⟩)
 rw[Nat.add_zero,IL (by simp;omega)]

theorem adC(main:Side)(h:Hp)(cd fl:Int)(β b1:Nat)(c c1:Array Value)(E1:TypeId)(z1:Nat×Nat)(hc:c.size=2)(h1:h b1=some (.cells c1 E1 z1))(hc1:c1[0]? =some (.pointer (some ⟨β,0,none⟩))):
  dV prog main GN #[.iface aQ (.agg #[I cd,I fl]),.iface bF (.pointer (some ⟨β,0,none⟩)),Us bF ⟨b1,0,none⟩ 150,Ur aQ] h [(β,.cells c aQ (0,0))] (fun v A=>v= .bool true∧Sb [(β,.cells #[I cd,I fl] aQ (0,0))] A):=by
 refine dV.aG N9 rfl (by show 4≤62;decide) [(0,.iface aQ (.agg #[I cd,I fl])),(1,.iface bF (.pointer (some ⟨β,0,none⟩))),(2,Us bF ⟨b1,0,none⟩ 150),(3,Ur aQ)] ⟨rfl,rfl,rfl,rfl,trivial⟩ ?_
 refine W.seq<|W.region rfl ?_
 refine Ops.box (fun yC=>?_)
 refine agb rfl rfl rfl<|pq<|W.block ?_
 refine W.loop (σ:=Unit) (fun _=>True) (fun _=>[(8,.bool false),(6,.pointer (some ⟨yC,0,none⟩)),(0,.iface aQ (.agg #[I cd,I fl])),(1,.iface bF (.pointer (some ⟨β,0,none⟩))),(3,Ur aQ)]) (fun _=>[(yC,.cells #[typeHandle prog bF,.pointer (some ⟨b1,0,none⟩),.int .u64 150] BH (0,0)),(β,.cells c aQ (0,0))]) (fun _=>0) () trivial ⟨rfl,rfl,rfl,rfl,rfl,trivial⟩ .refl ?_
 rintro⟨⟩ -
 refine W.block<|W.seq<|W.seq<|W.region rfl<|qm rfl rfl rfl ?_
 refine cxp (r:=Ur aQ) (by kernel_rfl) ?_
 refine qm rfl rfl rfl ?_
 refine cix (f:=eu) (u':=.agg #[typeHandle prog aQ]) (r:=.bool true) (by kernel_rfl) (by kernel_rfl) ?_
 refine pq ?_
 refine W.dW ?_
 refine W.seq<|W.region rfl ?_
 refine ag2 rfl ?_
 refine cx (fun h' hE=>Yb (.inl (hE.1 _ _ h1)) hc1) (fun v F' hv=>?_)
 obtain⟨rfl,rfl⟩:=hv
 refine qm rfl rfl rfl ?_
 refine cx (fun h' hE=>L_ (n:=153) rfl (fun a=>by kernel_rfl)) (fun v F' hv=>?_)
 obtain⟨yR,rfl,rfl⟩:=hv
 refine cx (fun h' hE=>abU (b:=β) (β:=yR) (.tail (.tail .head)) hc (.inr (.head _)) rfl (show(one (I cd)&&(one (I fl)&&true))=true from rfl)) (fun v F' hv=>?_)
 obtain⟨rfl,rfl⟩:=hv
 refine pq<|W.seq<|W.region rfl<|agb rfl rfl rfl<|pq<|W.ret<|aY<|cZ ?_
 refine aY<|cZ ?_
 exact mg ⟨rfl,TW⟩

theorem adD(main:Side)(h:Hp)(cd fl:Int)(β:Nat)(c:Array Value)(Eg:TypeId)(zg:Nat×Nat)(hc:c.size=2)(hg:h 0=some (.cells #[Ur qM] Eg zg)):
  dV prog main zQ #[.iface aQ (.agg #[I cd,I fl]),.iface bF (.pointer (some ⟨β,0,none⟩))] h [(β,.cells c aQ (0,0))] (fun v A=>v= .bool true∧Sb [(β,.cells #[I cd,I fl] aQ (0,0))] A):=by
 refine dV.aG Ep rfl (by show 2≤42;decide) [(0,.iface aQ (.agg #[I cd,I fl])),(1,.iface bF (.pointer (some ⟨β,0,none⟩)))] ⟨rfl,rfl,trivial⟩ ?_
 refine W.seq<|W.region rfl<|agb rfl rfl rfl<|pq<|W.seq<|W.seq<|W.region rfl<|qm rfl rfl rfl ?_
 refine agW (Xz rfl rfl) rfl ?_
 refine pq ?_
 refine W.bZ ?_
 refine W.skip<|aA<|W.seq<|W.seq<|W.region rfl<|qm rfl rfl rfl ?_
 refine agW (Xz rfl rfl) rfl ?_
 refine pq ?_
 refine W.bZ ?_
 refine W.skip<|aA<|W.seq<|W.region rfl<|qm rfl rfl rfl ?_
 refine cx (fun h' hE=>L_ (n:=150) rfl (fun a=>by kernel_rfl)) (fun v F' hv=>?_)
 obtain⟨β1,rfl,rfl⟩:=hv
 refine Ops.new (fun mZ=>?_)
 first | refine Ops.jP ?_ | refine Ops.nY ?_
 refine pq<|W.seq<|W.region rfl ?_
 refine ag2 rfl ?_
 refine cxp (r:=Ur bF) (by kernel_rfl) ?_
 refine agb rfl rfl rfl<|pq<|W.seq<|W.seq<|W.region rfl<|qm rfl rfl rfl ?_
 refine cix (f:=lS) (u':=typeHandle prog bF) (r:=.int .u8 22) (by kernel_rfl) (by kernel_rfl) ?_
 refine KU (nG rfl rfl rfl) (show Value.bool (decide ((22:Int)≠22))= .bool false from rfl) rfl wn rfl rfl ?_
 refine qm rfl rfl rfl ?_
 first | refine oq (Bf rfl rfl) rfl (ak rfl rfl rfl) rfl rfl ?_ | refine oq (zi rfl rfl) rfl (ak rfl rfl rfl) rfl rfl ?_
 refine cx (fun h' hE=>Ya (β:=β1) (b:=β) (.inr (by repeat(first | exact List.Mem.head _ | apply List.Mem.tail))) rfl) (fun v F' hv=>?_)
 obtain⟨rfl,rfl⟩:=hv
 refine agW (iH rfl rfl rfl) rfl ?_
 refine pq ?_
 refine W.bZ ?_
 refine W.skip<|aA<|W.seq<|W.region rfl<|qm rfl rfl rfl ?_
 refine cix (f:=iO) (u':=.agg #[typeHandle prog bF]) (r:=Ur aQ) (by kernel_rfl) (by kernel_rfl) ?_
 refine agb rfl rfl rfl<|pq<|W.seq<|W.seq<|W.region rfl<|qm rfl rfl rfl ?_
 refine cix (f:=lS) (u':=typeHandle prog aQ) (r:=.int .u8 25) (by kernel_rfl) (by kernel_rfl) ?_
 refine KU (nG rfl rfl rfl) (show Value.bool (decide ((25:Int)≠20))= .bool true from rfl) rfl wn rfl rfl ?_
 refine qm rfl rfl rfl ?_
 refine oq (aN rfl rfl) rfl (ak rfl rfl rfl) rfl rfl ?_
 refine oq (iQ rfl rfl (.inl hg) rfl) rfl (ak rfl rfl rfl) rfl rfl ?_
 refine cix (f:=fD) (u':=.agg #[typeHandle prog aQ]) (r:=.bool true) (by kernel_rfl) (by kernel_rfl) ?_
 refine oq (xU rfl rfl) rfl (ak rfl rfl rfl) rfl rfl ?_
 refine agW (dG rfl rfl rfl) rfl ?_
 refine pq ?_
 refine W.bZ ?_
 refine W.skip<|aA<|W.seq<|W.region rfl<|qm rfl rfl rfl<|qm rfl rfl rfl ?_
 refine ag2 rfl ?_
 refine qm rfl rfl rfl ?_
 refine cg (A:=[(β,.cells c aQ (0,0))]) (.tail (.tail .head)) (fun h' hE hL=>adC _ h' cd fl β β1 c _ _ _ hc (hL β1 _ (by repeat(first | exact List.Mem.head _ | apply List.Mem.tail))) rfl) (fun v A' hv=>?_)
 obtain⟨rfl,hsb⟩:=hv
 refine agb rfl rfl rfl<|pq<|W.ret ?_
 refine mg ⟨rfl,?_⟩
 exact .skip rfl (.skip rfl (hsb.trans (.right .refl .nil)))
theorem Yc(main:Side)(h:Hp)(tv:Value):Pu prog main zQ #[.nilIface,tv] h (.bool false):=by
 refine dV.aG Ep rfl (by show 2≤42;decide) [(0,.nilIface),(1,tv)] ⟨rfl,rfl,trivial⟩ ?_
 refine W.seq<|W.region rfl<|agb rfl rfl rfl<|pq<|W.seq<|W.seq<|W.region rfl<|qm rfl rfl rfl ?_
 refine agW (abK rfl rfl) rfl ?_
 refine pq ?_
 refine W.dW ?_
 refine W.seq<|W.region rfl<|agb rfl rfl rfl<|pq<|W.ret<|aY ?_
 exact uZ rfl
end Go.aS

/- Boils. Conditions: none; over the given program. -/
namespace Go.aS
set_option maxRecDepth 100000
set_option maxHeartbeats 4000000
instance:NI prog bF:=⟨by kernel_rfl⟩
instance:NI prog aQ:=⟨by kernel_rfl⟩
def EO(ps:List Pn):Nat→List Int→Nat→Except (Int×Nat) (List Nat)
 | _,[],_=>.ok []
 | q,p::r,i=>if outs p 0 (ps.length-1)then .error (3,i)else if P9 ps q p.toNat=false then .error (12,i)else
   match EO ps (gy ps p.toNat q) r (i+1)with
   | .ok l=>.ok (gy ps p.toNat q::l)
   | .error e=>.error e
def Vr(acc:List Nat):Except (Int×Nat) (List Nat)→Except (Int×Nat) (List Nat)
 | .ok l=>.ok (acc++l)
 | .error e=>.error e
theorem Yd{r:Except (Int×Nat) (List Nat)}:Vr [] r=r:=by cases r <;>rfl
theorem Vs{acc:List Nat}{o:Nat}{r:Except (Int×Nat) (List Nat)}:Vr (acc++[o]) r=Vr acc (match r with | .ok l=>.ok (o::l) | .error e=>.error e):=by cases r <;>simp[Vr]

theorem aag(main:Side)(h:Hp)(ps:List Pn)(vp:Value)(c q:Nat)(way:List Int)(vw:Value)(hf:Sl h Pn.row vp ps)(hok:iP ps)(hq:q<13)(hw:Sl h fH vw way)(hn:way.length≤1000):dV prog main pR #[xJ vp c,I q,vw] h []
  (
   fun v A=>match EO ps q way 0 with
   | .ok l=>∃w S,v= .tuple #[w,.nilIface]∧Os dL fH w (zs l) S∧Sb S A
   | .error e=>v= .tuple #[.slice none 0 0,.iface aQ (.agg #[I e.1,I e.2])]∧Shut A):=by
 obtain⟨a,cap,rfl⟩:=hf.dA
 obtain⟨a2,cap2,rfl⟩:=hw.dA
 have h4:=hok.len
 refine dV.aG yJ rfl (by show 3≤49;decide) [(0,xJ (.slice a ps.length cap) c),(1,I q),(2,.slice a2 way.length cap2)] ⟨rfl,rfl,rfl,trivial⟩ ?_
 refine W.seq<|W.region rfl ?_
 refine Ops.box (cs:= #[.slice a ps.length cap,U8 c]) (fun uU=>?_)
 refine agb rfl rfl rfl<|agb rfl rfl rfl<|pq<|W.seq<|W.region rfl<|agb rfl rfl rfl<|pq<|W.seq ?_
 refine W.seq<|W.region rfl<|qm rfl rfl rfl ?_
 refine agW (dM rfl rfl) rfl ?_
 refine qm rfl rfl rfl<|pq<|W.block ?_
 refine W.Js (σ:=Nat) (τ:=Nat×List Nat) (υ:=Value×ah) (fun k s t=>k≤way.length∧s.1<13∧EO ps q way 0=Vr s.2 (EO ps s.1 (way.drop k) k)∧s.2.length=k∧Os dL fH t.1 (zs s.2) t.2)
  (fun k s t=>[(13,I k),(12,I way.length),(11,.slice a2 way.length cap2),(8,t.1),(1,I s.1),(3,.pointer (some ⟨uU,0,none⟩))]) (fun _ _ t=>(uU,.cells #[.slice a ps.length cap,U8 c] bG (0,0))::t.2) (fun k _ _=>way.length-k) 0 (q,[]) (.slice none 0 0,[]) ⟨Nat.zero_le _,hq,Yd.symm,rfl,.nil .nil⟩ ⟨rfl,rfl,rfl,rfl,rfl,rfl,trivial⟩ .refl ?_
 rintro k ⟨q1,acc⟩ ⟨v,S⟩ ⟨hk,hq1,hb,hlen,hO⟩
 simp only at hq1 hb hlen hO⊢
 refine W.seq<|W.region rfl ?_
 refine agW (fO rfl rfl rfl) rfl ?_
 refine pq<|W.seq ?_
 refine W.bC rfl (fun c14=>?_) (fun c14=>?_)
 ·obtain⟨p,hp,hdr⟩:=has (show k<way.length by omega)
  rw[hdr,EO]at hb
  obtain⟨b,off,cc,E,fz,he,hbb,hx,hy,hz⟩:=hw.at hp
  have hx':cc[off+k*1]? =some (I p):=hz 0 (by decide)
  clear hx hz
  cases he
  refine W.skip<|aA<|W.seq<|W.block<|W.seq<|W.region rfl<|qm rfl rfl rfl ?_
  refine ag3 rfl ?_
  refine agX rfl ?_
  refine agb rfl rfl rfl<|agb rfl rfl rfl<|pq<|W.seq<|W.seq<|W.region rfl<|qm rfl rfl rfl ?_
  refine agY rfl ?_
  refine agY rfl ?_
  refine agX rfl ?_
  refine agW (dM rfl rfl) rfl ?_
  refine ag5 rfl ?_
  refine cp (fun h' hE hL=>jo _ h' _ _ _) ?_
  refine pq ?_
  refine W.bC rfl (fun c24=>?_) (fun c24=>?_)
  ·rw[if_pos c24]at hb
   refine W.seq<|W.region rfl<|qm rfl rfl rfl ?_
   refine agW (eH rfl rfl rfl) rfl ?_
   first | refine agW (ZK rfl rfl) rfl ?_ | refine agW (yfc rfl rfl) rfl ?_
   refine agb rfl rfl rfl<|agb rfl rfl rfl<|pq<|W.ret<|aY<|cZ<|aY<|aY<|cZ ?_
   refine aY ?_
   refine mg (vs:=[_,_]) ?_
   rw[hb]
   exact⟨rfl,.cons rfl hO.shut⟩
  ·rw[if_neg c24]at hb
   obtain⟨i,rfl⟩:∃i:Nat,p=i:=⟨p.toNat,by simp only[outs]at c24;omega⟩
   rw[Int.toNat_natCast]at hb
   have hi:i<ps.length:=by simp only[outs]at c24;omega
   refine W.skip<|aA<|W.seq<|W.seq<|W.region rfl ?_
   refine agY rfl ?_
   refine ag2 rfl ?_
   refine qm rfl rfl rfl ?_
   refine cp (fun h' hE hL=>JR _ h' ps _ _ (hf.ext hE) h4) ?_
   refine qm rfl rfl rfl ?_
   refine cp (fun h' hE hL=>X4 _ h' (P_ ps q1) i (LX (by simpa using h4)) (by omega)) ?_
   refine agW (xU rfl rfl) rfl ?_
   refine pq ?_
   refine W.cond rfl (fun c34=>?_) (fun c34=>?_)
   ·rw[JQ]at c34
    rw[if_pos (by simpa using c34)]at hb
    refine W.seq<|W.region rfl<|qm rfl rfl rfl ?_
    refine agW (eH rfl rfl rfl) rfl ?_
    first | refine agW (ZK rfl rfl) rfl ?_ | refine agW (yfc rfl rfl) rfl ?_
    refine agb rfl rfl rfl<|agb rfl rfl rfl<|pq<|W.ret<|aY<|cZ<|aY<|aY<|cZ ?_
    refine aY ?_
    refine mg (vs:=[_,_]) ?_
    rw[hb]
    exact⟨rfl,.cons rfl hO.shut⟩
   ·rw[JQ]at c34
    rw[if_neg (by simpa using c34),←Vs]at hb
    refine W.skip<|aA<|W.seq<|W.region rfl ?_
    refine agY rfl ?_
    refine ag2 rfl ?_
    refine qm rfl rfl rfl<|qm rfl rfl rfl ?_
    refine cp (fun h' hE hL=>Dl _ h' ps _ i q1 (hf.ext hE) hok hi hq1) ?_
    refine agb rfl rfl rfl<|pq<|W.region rfl<|qm rfl rfl rfl<|qm rfl rfl rfl ?_
    refine Ops.NK (cs:= #[I (gy ps i q1)]) (fun ae_=>?_) rfl
    refine oe rfl wn rfl rfl (iW (row:=fH) (l':=[(gy ps i q1:Int)]) rfl rfl rfl hO (.tail (.tail .all)) (fun h2 _ hl=>Sl.mk (hl ae_ _ (.head _)) rfl (Part.all [I (gy ps i q1)])) (by rw[kT];simp;omega) (by decide) rfl (fun v' S' Ie=>?_))
    refine agb rfl rfl rfl<|Ops.nil<|dI<|aA<|W.region rfl ?_
    refine ag1 rfl ?_
    refine qm rfl rfl rfl<|pq ?_
    exact⟨rfl,k+1,(gy ps i q1,acc++[gy ps i q1]),(v',S'),⟨by omega,AZ,hb,by simp[hlen],by simpa[zs]using Ie⟩,by omega,⟨rfl,rfl,rfl,rfl,rfl,rfl,trivial⟩,.skip rfl .refl⟩
 ·obtain rfl:k=way.length:=by omega
  rw[List.drop_length,EO,Vr,List.append_nil]at hb
  refine W.exit<|bP<|bP<|gG<|aA<|W.seq<|W.region rfl<|qm rfl rfl rfl<|agb rfl rfl rfl<|agb rfl rfl rfl ?_
  refine pq<|W.ret ?_
  refine mg (vs:=[_,_]) ?_
  rw[hb]
  exact⟨_,S,rfl,hO,.skip rfl .refl⟩

def Aq(ps:List Pn)(q:Int)(way:List Int):List Nat×Int:=
 if kU ps [q]≠0 then([],kU ps [q])else if 40<way.length then([],6)else
  match EO ps q.toNat way 0 with
  | .ok l=>(l,0)
  | .error e=>([],e.1)
theorem Sj{ps:List Pn}{q:Int}(h:kU ps [q]=0):iP ps∧0≤q∧q≤12:=by
 unfold kU at h
 split at h
 ·rename_i h1;exact absurd h h1
 ·rename_i h1
  have h2:nV ps=0:=by simpa using h1
  by_cases h3:outs q 0 12
  ·simp[h3]at h
  ·simp only[outs]at h3;exact⟨.yB h2,by omega,by omega⟩
theorem aah(main:Side)(h:Hp)(ps:List Pn)(vp:Value)(q:Int)(way:List Int)(vw:Value)(Eg:TypeId)(zg:Nat×Nat)(hf:Sl h Pn.row vp ps)(hw:Sl h fH vw way)(hg:h 0=some (.cells #[Ur qM] Eg zg)):dV prog main Em #[vp,I q,vw] h []
  (fun v A=>∃w S,v= .tuple #[w,I (Aq ps q way).2]∧Os dL fH w (zs (Aq ps q way).1) S∧Sb S A):=by
 obtain⟨a,cap,rfl⟩:=hf.dA
 obtain⟨a2,cap2,rfl⟩:=hw.dA
 refine dV.aG KF rfl (by show 3≤39;decide) [(0,.slice a ps.length cap),(1,I q),(2,.slice a2 way.length cap2)] ⟨rfl,rfl,rfl,trivial⟩ ?_
 refine W.seq<|W.region rfl<|agb rfl rfl rfl<|agb rfl rfl rfl<|pq<|W.seq<|W.region rfl<|qm rfl rfl rfl<|qm rfl rfl rfl ?_
 refine Ops.NK (cs:= #[I q]) (fun Ye=>?_) rfl
 refine cp (fun h' hE hL=>Am _ h' ps _ [q] _ (hf.ext hE) (Sl.mk (hL Ye _ (.head _)) rfl (Part.all [I q])) (by simp)) ?_
 refine qm rfl rfl rfl<|oq (bD rfl rfl rfl) rfl wn rfl rfl<|oq (bD rfl rfl rfl) rfl wn rfl rfl ?_
 have hcs:∃cs:Array Value,(if kU ps [q]=0 then xJ (.slice a ps.length cap) 0 else LZ)= .agg cs∧cs.size=2∧ones cs.toList=true:=by
  split <;>exact⟨_,rfl,rfl,rfl⟩
 obtain⟨cs,hcs,hcs2,hcs1⟩:=hcs
 rw[hcs]
 refine Ops.new (fun yD=>?_)
 refine Ops.jP (n:=2) (vs:=cs) ?_ (hy:=by rfl) (hn:=hcs2) (h1:=hcs1)
 refine agb rfl rfl rfl<|pq<|W.seq<|W.seq<|W.region rfl<|qm rfl rfl rfl ?_
 refine agW (nG rfl rfl rfl) rfl ?_
 refine pq ?_
 refine W.bC rfl (fun c21=>?_) (fun c21=>?_)
 ·have e:Aq ps q way=([],kU ps [q]):=by rw[Aq,if_pos (by simpa using c21)]
  refine W.seq<|W.region rfl<|qm rfl rfl rfl<|agb rfl rfl rfl<|agb rfl rfl rfl<|pq<|W.ret<|aY ?_
  refine mg (vs:=[_,_]) ?_
  rw[e]
  exact⟨_,[],rfl,.nil .nil,.nil (.cons rfl (.cons rfl .nil))⟩
 ·have h0:kU ps [q]=0:=by simpa using c21
  obtain⟨hok,hq0,hq12⟩:=Sj h0
  rw[if_pos h0]at hcs
  cases hcs
  obtain⟨q,rfl⟩:∃n:Nat,q=n:=⟨q.toNat,by omega⟩
  refine W.skip<|aA<|W.seq<|W.seq<|W.region rfl<|qm rfl rfl rfl ?_
  refine agW (dM rfl rfl) rfl ?_
  refine agW (rC rfl rfl rfl) rfl ?_
  refine pq ?_
  refine W.bC rfl (fun c25=>?_) (fun c25=>?_)
  ·have e:Aq ps q way=([],6):=by rw[Aq,if_neg (by simpa using h0),if_pos (by omega)]
   refine W.seq<|W.region rfl<|agb rfl rfl rfl<|agb rfl rfl rfl<|pq<|W.ret<|aY ?_
   refine mg (vs:=[_,_]) ?_
   rw[e]
   exact⟨_,[],rfl,.nil .nil,.nil (.cons rfl (.cons rfl .nil))⟩
  ·have e:Aq ps q way=match EO ps q way 0 with | .ok l=>(l,0) | .error e=>([],e.1):=by rw[Aq,if_neg (by simpa using h0),if_neg (by omega),Int.toNat_natCast]
   refine W.skip<|aA<|W.seq<|W.region rfl ?_
   refine ag2 rfl ?_
   refine qm rfl rfl rfl<|qm rfl rfl rfl ?_
   refine c0 (fun h' hE hL=>aag _ h' ps _ 0 q way _ (hf.ext hE) hok (by omega) (hw.ext hE) (by omega)) (fun v A' hv=>?_)
   obtain⟨w,S,ev,rv,hv1,hv2,hsb,hrv⟩:∃(w:Value) (S:ah) (ev:Value) (l:List Nat),v= .tuple #[w,ev]∧Os dL fH w (zs l) S∧Sb S A'∧((ev= .nilIface∧Aq ps q way=(l,0))∨∃cd i:Int,ev= .iface aQ (.agg #[I cd,I i])∧Aq ps q way=([],cd)):=by
    rw[e]
    cases hb:EO ps q way 0 with
    | ok l=>
     rw[hb]at hv
     obtain⟨w,S,h1,h2,h3⟩:=hv
     exact⟨w,S,_,l,h1,h2,h3,.inl ⟨rfl,rfl⟩⟩
    | error er=>
     rw[hb]at hv
     exact⟨_,[],_,[],hv.1,.nil .nil,.nil hv.2,.inr ⟨er.1,er.2,rfl,rfl⟩⟩
   subst hv1
   refine Ops.sb (hsb.app .refl) ?_
   obtain⟨a3,cap3,rfl⟩:=hv2.dA
   refine qm rfl rfl rfl<|oq (bD rfl rfl rfl) rfl wn rfl rfl<|oq (bD rfl rfl rfl) rfl wn rfl rfl<|agb rfl rfl rfl<|agb rfl rfl rfl<|pq<|W.seq<|W.region rfl ?_
   refine Ops.new (fun Yf=>?_)
   refine pq<|W.seq<|W.seq<|W.region rfl ?_
   rcases hrv with⟨rfl,hB⟩ | ⟨cd,i,rfl,hB⟩
   ·refine qm rfl rfl rfl ?_
    first | refine agW (ZK rfl rfl) rfl ?_ | refine agW (yfc rfl rfl) rfl ?_
    refine cp (fun h' hE hL=>Yc _ h' _) ?_
    refine pq ?_
    refine W.bZ ?_
    refine W.skip<|aA<|W.seq<|W.region rfl<|qm rfl rfl rfl<|agb rfl rfl rfl<|agb rfl rfl rfl<|pq<|W.ret ?_
    refine mg (vs:=[_,_]) ?_
    rw[hB]
    exact⟨_,S,rfl,hv2,.skip rfl (.right .refl (.cons rfl (.cons rfl .nil)))⟩
   ·refine qm rfl rfl rfl ?_
    first | refine agW (ZK rfl rfl) rfl ?_ | refine agW (yfc rfl rfl) rfl ?_
    refine cg (A:=[(Yf,.cells #[I 0,I 0] aQ (0,0))]) .head (fun h' hE hL=>adD _ h' cd i Yf _ Eg zg rfl (hE.1 _ _ hg)) (fun v A2 hv=>?_)
    obtain⟨rfl,Oh⟩:=hv
    refine Ops.sb (Oh.app .refl) ?_
    refine pq ?_
    refine W.dW ?_
    refine W.seq ?_
    refine W.rE (n:=4) rfl ?_
    refine xq 0 (ay rfl rfl) rfl ?_
    refine xq 1 (iQ rfl rfl) rfl ?_
    refine xq 2 (jS rfl rfl) rfl ?_
    refine xq 3 (jS rfl rfl) rfl ?_
    refine az ?_
    refine aA<|W.ret<|aY ?_
    refine mg (vs:=[_,_]) ?_
    rw[hB]
    exact⟨_,[],rfl,.nil .nil,.nil (.cons rfl (hv2.shut.app (.cons rfl (.cons rfl .nil))))⟩
end Go.aS

/- Maps whose keys are of numbers alone. Conditions: none; over any program. -/
namespace Go.aS
def Sr(P:Program)(t:TypeId)(w K:Nat):Prop:=∀{h:Hp} {F:ah} {β:Type} {f:Unit→Sem β} {Q:β→ah→Prop} (em:Bool) (d:Nat) {xs:Array Value} {off:Nat} {us:List Int},us.length=w→Part xs off (us.map nI)→
 tr P h ((part t xs off).bind fun x=>(Instr.checkKey em (d+K) t x).bind f) F Q=tr P h (f ()) F Q
def CkV(P:Program)(t:TypeId)(w K:Nat):Prop:=∀{h:Hp} {F:ah} {β:Type} {f:Unit→Sem β} {Q:β→ah→Prop} (em:Bool) (d:Nat) {us:List Int},us.length=w→
 tr P h ((Instr.checkKey em (d+K) t (.agg (us.map nI).toArray)).bind f) F Q=tr P h (f ()) F Q
theorem Sr.int{P:Program}{t:TypeId}[TD P t (.int .i64)][SC P t]:Sr P t 1 1:=by
 intro hp F β f Q em d xs off us h1 h3
 obtain⟨a,rfl⟩:=List.length_eq_one_iff.1 h1
 have e1:xs[off]? =some (nI a):=h3.get (j:=0) (by simp)
 rw[lT e1]
 simp only[Instr.checkKey,bind_eq,au,bind_assoc,bind_pure,aC]
theorem CkV.at{P:Program}{t w K:Nat}(H:CkV P t w K)[AG P t w]:Sr P t w K:=by
 intro hp F β f Q em d xs off us h1 h3
 have e1:=h3.extract
 rw[List.length_map,h1]at e1
 rw[ru,e1]
 exact H em d h1
theorem CkV.le{P:Program}{t w K K':Nat}(H:CkV P t w K)(h:K≤K'):CkV P t w K':=by
 intro hp F β f Q em d us h1
 have:= @H hp F β f Q em (d+(K'-K)) us h1
 rwa[show d+(K'-K)+K=d+K' by omega]at this

def Qi(P:Program)(K:Nat):List Field→List Nat→Nat→Prop
 | [],[],_=>True
 | f::fs,w::ws,o=>f.name≠ "_" ∧f.offset=o∧Sr P f.type w K∧Qi P K fs ws (o+w)
 | _,_,_=>False
theorem Qi.nil{P:Program}{K o:Nat}:Qi P K [] [] o:=trivial
theorem Qi.cons{P:Program}{K o w:Nat}{f:Field}{fs:List Field}{ws:List Nat}(hn:f.name≠ "_")(ho:f.offset=o)(he:Sr P f.type w K)(hl:Qi P K fs ws (o+w)):Qi P K (f::fs) (w::ws) o:=⟨hn,ho,he,hl⟩
theorem Mc{P:Program}{K:Nat}{xs:Array Value}{hp:Hp}{F:ah}{β:Type}{Q:β→ah→Prop}(em:Bool)(d:Nat){g:PUnit→Sem β}:∀(fs:List Field) (ws:List Nat) (o:Nat) (us:List Int),Qi P K fs ws o→us.length=ws.sum→Part xs o (us.map nI)→
  tr P hp ((
       forIn fs PUnit.unit fun f __s=>
     if f.name≠ "_" then
      (
       part f.type xs f.offset).bind fun __do_lift=>
       (Instr.checkKey em (d+K) f.type __do_lift).bind fun r=>Sem.pure (ForInStep.yield PUnit.unit)
     else Sem.pure (ForInStep.yield PUnit.unit)).bind g) F Q=tr P hp (g PUnit.unit) F Q
 | [],[],o,us,_,h1,h3=>by
  simp only[List.forIn_nil,au,bind_pure]
 | f::fs,w::ws,o,us,hl,h1,h3=>by
  obtain⟨hn,ho,he,hl⟩:=hl
  simp only[List.sum_cons]at h1
  obtain⟨p1,p2⟩:=h3.two (w:=w) (by omega)
  have e1:(us.take w).length=w:=by simp;omega
  subst ho
  simp only[List.forIn_cons,bind_eq,if_pos hn,bind_assoc]
  rw[he em d e1 p1]
  simp only[bind_pure]
  exact Mc em d fs ws _ (us.drop w) hl (by simp;omega) p2
 | [],_::_,_,_,hl,_,_=>hl.elim
 | _::_,[],_,_,hl,_,_=>hl.elim
theorem CkV.struct{P:Program}{t:TypeId}{fs:Array Field}{ws:List Nat}{K:Nat}[TD P t (.struct fs)](hl:Qi P K fs.toList ws 0):CkV P t ws.sum (K+1):=by
 intro hp F β f Q em d us h1
 show tr P hp ((Instr.checkKey em (d+K+1) t _).bind f) F Q=_
 simp only[Instr.checkKey,bind_eq,au,bind_assoc,bind_pure,aC]
 rw[←Array.forIn_toList]
 exact Mc em d fs.toList ws 0 us hl h1 (Part.all _)
theorem Qj{P:Program}{E w K:Nat}{s:Nat}{z:Value}{zc:Array Value}[TI P E w s z zc]{xs:Array Value}{hp:Hp}{F:ah}{β:Type}{Q:β→ah→Prop}(he:Sr P E w K)(em:Bool)(d:Nat){g:PUnit→Sem β}:∀(n i:Nat) (us:List Int),us.length=n*w→Part xs (i*w) (us.map nI)→
  tr P hp ((
       forIn (List.range' i n) PUnit.unit fun i __s=>
     (
      sizeOf E).bind fun __do_lift=>
      (
       part E xs (i*__do_lift)).bind fun __do_lift=>
       (Instr.checkKey em (d+K) E __do_lift).bind fun r=>Sem.pure (ForInStep.yield PUnit.unit)).bind g) F Q=tr P hp (g PUnit.unit) F Q
 | 0,i,us,h1,h3=>by
  simp only[List.range'_zero,List.forIn_nil,au,bind_pure]
 | n+1,i,us,h1,h3=>by
  rw[Nat.succ_mul]at h1
  obtain⟨p1,p2⟩:=h3.two (w:=w) (by omega)
  have e1:(us.take w).length=w:=by simp;omega
  have e3:i*w+w=(i+1)*w:=by rw[Nat.succ_mul]
  rw[e3]at p2
  simp only[List.range'_succ,List.forIn_cons,bind_eq,bind_assoc,dH]
  rw[he em d e1 p1]
  simp only[bind_pure]
  exact Qj he em d n (i+1) (us.drop w) (by simp;omega) p2
theorem CkV.array{P:Program}{t n E w K:Nat}{s:Nat}{z:Value}{zc:Array Value}[TD P t (.array n E)][TI P E w s z zc](he:Sr P E w K):CkV P t (n*w) (K+1):=by
 intro hp F β f Q em d us h1
 show tr P hp ((Instr.checkKey em (d+K+1) t _).bind f) F Q=_
 simp only[Instr.checkKey,bind_eq,au,bind_assoc,bind_pure,aC]
 rw[Std.Legacy.Range.forIn_eq_forIn_range']
 have e:(Std.Legacy.Range.size [:n])=n:=by simp[Std.Legacy.Range.size]
 rw[e]
 exact Qj he em d n 0 us h1 (by rw[Nat.zero_mul];exact Part.all _)

section
variable{P:Program}{h:Hp}{F:ah}{β:Type}{Q:β→ah→Prop}{t w:Nat}
end
section rules
variable{x:Cx}{ρ:Env}{F:ah}{S:ah→Prop}{o:Oper}{R:Value→ah→Prop}
theorem Md{t:Nat}(ho:o.op= .makeMap t none)(H:∀β,x.h β=none→(∀o,(β,o)∉F)→R (.map (some β)) ((β,.map #[] 0)::F)):Ef x ρ o F R:=
 Ef.xW fun e he h' hE=>by
  simp only[execOp,ho,Instr.makeMap,Option.map_none,bind_eq,au,bind_assoc,bind_pure]
  exact⟨(fun h=>by cases h),fun r h5 h6=>⟨_,.inl rfl,H r (hE.none h5) h6⟩⟩
end rules
end Go.aS

/- Queues: slices of one's own that begin somewhere in their block; maps whose keys are ints. Conditions: none; over any program. -/
namespace Go.aS
section
variable{α:Type}{row:α→List Value}{w:Nat}[rw':Rw row w]
def Oq(E:TypeId)(row:α→List Value)[Rw row w](v:Value)(l:List α)(A:ah):Prop:=
 (l=[]∧v= .slice none 0 0∧Shut A)∨∃β c o cap J,v= .slice (some ⟨β,o,none⟩) l.length cap∧A=(β,.cells c E (0,0))::J∧o+cap*w≤c.size∧l.length≤cap∧Part c o (flat row l)∧Shut J
theorem Oq.shut{E:TypeId}{v:Value}{l:List α}{A:ah}(H:Oq E row v l A):Shut A:=by
 rcases H with⟨_,_,h⟩ | ⟨β,c,o,cap,J,_,rfl,_,_,_,h⟩
 ·exact h
 ·exact .cons rfl h
theorem Oq.dA{E:TypeId}{v:Value}{l:List α}{A:ah}(H:Oq E row v l A):∃a cap,v= .slice a l.length cap:=by
 rcases H with⟨rfl,rfl,_⟩ | ⟨β,c,o,cap,J,rfl,rfl,h1,h2,h3,_⟩
 ·exact⟨_,_,rfl⟩
 ·exact⟨_,_,rfl⟩
theorem Vt{P:Program}{h:Hp}{E:TypeId}{A:ah}{v:Value}{l:List α}{Q:Array Value→ah→Prop}(H:Oq E row v l A)(K:Q (flat row l).toArray A):tr P h (Builtin.firstCells w l.length v) A Q:=by
 rcases H with⟨rfl,rfl,_⟩ | ⟨β,c,o,cap,J,rfl,rfl,h1,h2,h3,_⟩
 ·exact K
 ·have h6:=h3.len
  have h7:=h3.extract
  rw[jT]at h6 h7
  simp only[Builtin.firstCells,loadCells]
  refine gX (.inr (List.mem_cons_self ..)) _ 0 #[] (by omega) ?_
  simp only[Nat.add_zero,Array.empty_append]
  rw[h7];exact K
theorem EP:∀(vs:List Value) (c:Array Value) {o:Nat} {xs:List Value},Part c o xs→o+xs.length+vs.length≤c.size→Part (jv c (o+xs.length) vs) o (xs++vs)
 | [],c,o,xs,h,_=>by simpa[jv]using h
 | u::r,c,o,xs,h,hn=>by
  simp only[List.length_cons]at hn
  have h':Part (c.setIfInBounds (o+xs.length) u) o (xs++[u]):=by
   obtain⟨pre,post,h1,h2⟩:=h
   cases post with
   | nil=>
    have:c.size=c.toList.length:=by simp
    rw[this,h1]at hn;simp at hn;omega
   | cons y post=>
    refine⟨pre,post,?_,h2⟩
    rw[Array.toList_setIfInBounds,h1,←h2]
    simp[List.set_append]
  have:=EP r (c.setIfInBounds (o+xs.length) u) h' (by simp;omega)
  simpa[jv,Nat.add_assoc]using this
theorem Sz{P:Program}{h:Hp}{t t' ty E E' by':Nat}{z:Value}{zc:Array Value}[TD P t (.slice E)][TD P t' (.slice E')][TI P E w by' z zc]{v x:Value}{l l':List α}{A:ah}{Q:Value→ah→Prop}(hzc:zc.size=w)
  (hs:Oq E row v l A) (hx:Sl h row x l') (hb:(2*(l.length+l'.length)+768)*by'≤2 ^ 48) (hby:0<by')
  (K:∀v' A',Oq E row v' (l++l') A'→Q v' A'):tr P h (Builtin.append_ #[t,t'] ty #[v,x]) A Q:=by
 obtain⟨j,hj,hj1,hj2,hj3,hj4⟩:=TI.out (inferInstance:TI P E w by' z zc)
 have hm:((l.length+l'.length:Nat):Int)≤IntKind.i64.max:=by
  have h1:(2*(l.length+l'.length)+768)*1≤(2*(l.length+l'.length)+768)*by':=Nat.mul_le_mul_left _ hby
  have h2:IntKind.i64.max=9223372036854775807:=rfl
  omega
 obtain⟨ax,Q9,hxe,_⟩:=id hx
 obtain⟨a,cap,hv⟩:=hs.dA
 subst hv hxe
 have e1:(#[t,t']:Array TypeId)[0]? =some t:=rfl
 have e2:(#[t,t']:Array TypeId)[1]? =some t':=rfl
 have e3:(#[Value.slice a l.length cap,Value.slice ax l'.length Q9]:Array Value)[0]? =some (.slice a l.length cap):=rfl
 have e4:(#[Value.slice a l.length cap,Value.slice ax l'.length Q9]:Array Value)[1]? =some (.slice ax l'.length Q9):=rfl
 simp only[Builtin.append_,e1,e2,e3,e4,bind_eq,au,bind_assoc,bind_pure,aC,dH,Bool.false_eq_true,if_false,Builtin.lenOf,Bool.not_false,if_true]
 by_cases hc:l.length+l'.length≤cap
 ·rw[if_pos hc]
  refine bJ (DU hx ?_)
  rcases hs with⟨rfl,he,hsh⟩ | ⟨β,c,o,cap',J,he,rfl,h1,h2,h3,hsh⟩
  ·cases he
   have:l'=[]:=List.length_eq_zero_iff.1 (by simp at hc;simp[hc])
   subst this
   exact K _ A (.inl ⟨rfl,rfl,hsh⟩)
  ·cases he
   have hl3:=jT (row:=row) l
   have WE:=jT (row:=row) l'
   have hle:o+l.length*w+l'.length*w≤c.size:=by
    have:(l.length+l'.length)*w≤cap*w:=Nat.mul_le_mul_right _ hc
    rw[Nat.add_mul]at this
    omega
   have ea:(⟨β,o,none⟩:Addr).add (l.length*w)=⟨β,o+l.length*w,none⟩:=by rw[jE rfl]
   simp only[ea]
   refine bJ (kV (flat row l') 0 c (Lu l') At.head (by rw[WE];simp;omega) ?_)
   refine K _ _ (.inr ⟨β,jv c (o+l.length*w) (flat row l'),o,cap,J,by rw[List.length_append],by simp,by rw[y9];exact h1,by rw[List.length_append];exact hc,?_,hsh⟩)
   rw[zk,←hl3]
   exact EP _ _ h3 (by rw[hl3,WE];exact hle)
 ·rw[if_neg hc]
  have c1:¬(((l.length+l'.length:Nat):Int)>IntKind.i64.max∧(false=true∨(by':Nat)=0)):=by omega
  have c2:¬Builtin.nextslicecap (l.length+l'.length) cap*by'>2 ^ 48:=by
   have:=IV (show cap<l.length+l'.length by omega)
   have:=Nat.mul_le_mul_right by' this
   omega
  simp only[dJ hj,hj2]
  have c1':¬(((l.length+l'.length:Nat):Int)>IntKind.i64.max):=by omega
  simp only[c1',false_and,if_false]
  rw[dJ hj,hj2,if_neg c2]
  intro n ⟨tp,hn⟩
  have hn':l.length+l'.length≤n:=by rw[hn];simp only[Question.cut];omega
  clear hn c2
  show tr P h (Sem.bind (typeInfo E) _) A Q
  rw[dJ hj,hj2]
  
  have room:∀{β:Type} {f:Unit→Sem β} {Q':β→ah→Prop},tr P h (f ()) A Q'→tr P h ((askRoom (n*by')).bind f) A Q':=by
   intro β f Q' H
   unfold askRoom
   split
   ·exact⟨rfl,H⟩
   ·exact H
  refine room (bJ (Vt hs (bJ (DU hx ?_))))
  simp only[fG,hj4,newRow,bind_eq,au,bind_assoc,bind_pure]
  refine wI fun r _ _=>?_
  refine K _ _ (.inr ⟨r,_,0,n,A,by rw[List.length_append],rfl,?_,by rw[List.length_append];exact hn',?_,hs.shut⟩)
  ·simp only[Array.size_append,List.size_toArray,jT,zn,hzc,←Nat.add_mul,Nat.zero_add]
   exact Nat.mul_le_mul_right _ (by omega)
  ·refine⟨[],(Builtin.zeroCells zc (n- (l.length+l'.length))).toList,?_,rfl⟩
   rw[zk]
   simp only[Array.toList_append,List.nil_append,List.append_assoc]
theorem Oq.pop{E:TypeId}{a:Option Addr}{cap:Nat}{p:α}{l:List α}{A:ah}(H:Oq E row (.slice a (p::l).length cap) (p::l) A):Oq E row (.slice (if cap=1 then a else a.map (·.add (1*w))) l.length (cap-1)) l A:=by
 rcases H with⟨he,_⟩ | ⟨β,c,o,cap',J,he,rfl,h1,h2,h3,hJ⟩
 ·cases he
 ·cases he
  have hp:Part c (o+w) (flat row l):=by
   have:=Part.sub (c:=c) (off:=o) (a:=row p) (b:=flat row l) (d:=[]) (by rw[List.append_nil,←iV];exact h3)
   rwa[rw'.len]at this
  simp only[List.length_cons]at h2
  split
  ·rename_i hc
   subst hc
   have:l=[]:=List.length_eq_zero_iff.1 (by omega)
   subst this
   refine .inr ⟨β,c,o,0,J,rfl,rfl,by omega,Nat.le_refl _,?_,hJ⟩
   exact⟨c.toList.take o,c.toList.drop o,by simp[flat],by simp;omega⟩
  ·refine .inr ⟨β,c,o+w,cap-1,J,?_,rfl,?_,by omega,hp,hJ⟩
   ·simp only[Option.map_some,jE,Nat.one_mul]
   ·have:cap*w=(cap-1)*w+w:=by
     obtain⟨k,rfl⟩:∃k,cap=k+1:=⟨cap-1,by omega⟩
     rw[Nat.succ_mul];simp
    omega
end
section rules
variable{x:Cx}{ρ:Env}{F:ah}{S:ah→Prop}{o:Oper}{R:Value→ah→Prop}
section
variable{α:Type}{row:α→List Value}{w:Nat}[rw':Rw row w]
theorem Vu{t t' E E' by':Nat}{z:Value}{zc:Array Value}{y yx:Operand}{v xv:Value}{l l':List α}{A:ah}{U:ah→ah}(ho:o.op= .call ⟨.builtin .append, #[y,yx], #[t,t']⟩)[TD x.P t (.slice E)][TD x.P t' (.slice E')][TI x.P E w by' z zc]
  (hy:ev ρ y=some v) (hx:ev ρ yx=some xv) (hs:Oq E row v l A) (hg:Seg A F U) (hsrc:∀h',Ext x.h h'→fF (U []) h'→Sl h' row xv l') (hb:(2*(l.length+l'.length)+768)*by'≤2 ^ 48) (hby:0<by') (hzc:zc.size=w)
  (K:∀v' A',Oq E row v' (l++l') A'→R v' (U A')):Ef x ρ o F R:=fun e he=>
 ⟨A,U [],hg.perm.1,fun h' e1 e2=>by
  simp only[execOp,ho,resolve,invoke,builtin,List.map_toArray,List.map_cons,List.map_nil,he y _ hy,he yx _ hx,bind_eq,au,bind_pure]
  exact bJ (Sz hzc hs (hsrc h' e1 e2) hb hby fun v' A' H=>⟨U A',hg.perm.2 A',K v' A' H⟩)⟩
end
theorem SA{t E s by':Nat}{z:Value}{zc:Array Value}{y lo:Operand}{a:Option Addr}{k:IntKind}{l cap m:Nat}(ho:o.op= .slice t y (some lo) none none)[TD x.P t (.slice E)][TI x.P E s by' z zc](hy:ev ρ y=some (.slice a l cap))(hh:ev ρ lo=some (.int k (m:Int)))(hm:m≤l)(hl:l≤cap):Yv x S ρ o (.slice (if cap=m then a else a.map (·.add (m*s))) (l-m) (cap-m)):=fun e he F hF h' hE=>by
 have e1:(0:Int)≤m∧(m:Int)≤l:=by omega
 have e2:(0:Int)≤l∧(l:Int)≤cap:=by omega
 simp only[execOp,ho,he y _ hy,he lo _ hh,Instr.sliceAt,Instr.slice,Instr.sliceBounds,Instr.sliceBound,asIntOf,bind_eq,au,bind_assoc,bind_pure,Option.map_none,Option.map_some,aC,dH,if_pos e1,Int.toNat_natCast]
 exact⟨rfl,rfl⟩
end rules
end Go.aS

/- Maps whose keys are ints. Conditions: none; over any program. -/
namespace Go.aS
def ER(es:Array MapEntry)(f:Int→Option Value):Prop:=∃m:List (Int×Value),es.toList.map (fun e=>(e.key,e.val))=m.map (fun p=>(nI p.1,p.2))∧(m.map (·.1)).Nodup∧∀x,m.lookup x=f x
theorem lkc{x:Int}{p:Int×Value}{m:List (Int×Value)}:(p::m).lookup x=match x==p.1 with | true=>some p.2 | false=>m.lookup x:=rfl
theorem ER.nil:ER #[] fun _=>none:=⟨[],rfl,List.nodup_nil,fun _=>rfl⟩

def Yg(k:Int):List (Int×Value)→Nat→Option (Nat×Value)
 | [],_=>none
 | p::m,i=>if k=p.1 then some (i,p.2)else Yg k m (i+1)
theorem xK{k:Int}:∀{m:List (Int×Value)} {i:Nat},(Yg k m i).map (·.2)=m.lookup k
 | [],_=>rfl
 | p::m,i=>by
  simp only[Yg,lkc]
  by_cases h:k=p.1
  ·simp[h]
  ·have:(k==p.1)=false:=by simpa using h
   rw[if_neg h,this]
   exact xK
theorem Qk{k:Int}:∀{m:List (Int×Value)} {i j:Nat} {v:Value},Yg k m i=some (j,v)→∃n,j=i+n∧m[n]? =some (k,v)
 | [],_,_,_,h=>by cases h
 | p::m,i,j,v,h=>by
  simp only[Yg]at h
  split at h
  ·rename_i e
   cases h
   exact⟨0,rfl,by rw[e];rfl⟩
  ·obtain⟨n,h1,h2⟩:=Qk h
   exact⟨n+1,by omega,h2⟩
theorem Ql{d:TypeDesc}{k:Int}(hd:d= .int .i64):∀{m:List (Int×Value)} {l:List MapEntry} {i:Nat},l.map (fun e=>(e.key,e.val))=m.map (fun p=>(nI p.1,p.2))→Instr.findNow d (nI k) l i=some (Yg k m i)
 | [],l,i,hm=>by
  have:l=[]:=by simpa using hm
  subst this;rfl
 | p::m,[],i,hm=>by cases hm
 | p::m,e::l,i,hm=>by
  simp only[List.map_cons,List.cons.injEq,Prod.mk.injEq]at hm
  obtain⟨⟨h1,h2⟩,h3⟩:=hm
  subst hd
  simp only[Instr.findNow,h1,Instr.sameNow,if_true,Yg]
  by_cases h:k=p.1
  ·have:(k==p.1)=true:=by simpa using h
   simp[this,h,h2]
  ·have:(k==p.1)=false:=by simpa using h
   simp only[this,if_neg h]
   exact Ql rfl h3

section
variable{P:Program}{h:Hp}{F:ah}{β:Type}{Q:β→ah→Prop}{t:Nat}
theorem JW[TD P t (.int .i64)]{f:Option (Nat×Value)→Sem β}{k:Int}{m:List (Int×Value)}{es:Array MapEntry}(hm:es.toList.map (fun e=>(e.key,e.val))=m.map (fun p=>(nI p.1,p.2))):tr P h ((Instr.findKey t (nI k) es.toList).bind f) F Q=tr P h (f (Yg k m 0)) F Q:=by
 simp only[Instr.findKey,bind_eq,au,bind_assoc,aC,Ql rfl hm,bind_pure]
theorem Gg[TD P t (.int .i64)]{f:Unit→Sem β}{em:Bool}{k:Int}:tr P h ((Instr.checkKey em 10000 t (nI k)).bind f) F Q=tr P h (f ()) F Q:=by
 show tr P h ((Instr.checkKey em (9999+1) t (nI k)).bind f) F Q=_
 generalize(9999:Nat)=n
 simp only[Instr.checkKey,bind_eq,au,bind_assoc,aC,bind_pure]
end
section rules
variable{x:Cx}{ρ:Env}{F:ah}{S:ah→Prop}{o:Oper}{R:Value→ah→Prop}
theorem aaj{t kt vt s b:Nat}{z:Value}{zc:Array Value}{y k:Operand}{β clock:Nat}{es:Array MapEntry}{f:Int→Option Value}{a:Int}{U:Obj→ah}(ho:o.op= .lookup t y k false)[TD x.P t (.map kt vt)][TD x.P kt (.int .i64)][TI x.P vt s b z zc](hy:ev ρ y=some (.map (some β)))(hk:ev ρ k=some (.int .i64 a))(hl:At β (.map es clock) F U)(hm:ER es f)
  (H:R ((f a).getD z) F):Ef x ρ o F R:=
 Ef.xW fun e he h' hE=>by
  obtain⟨F1,F2,e1,e2⟩:=hl.split
  obtain⟨m,hm1,hm2,hm3⟩:=hm
  simp only[execOp,ho,he y _ hy,he k _ hk,Instr.lookup,bind_eq,au,bind_assoc,bind_pure,aC,Bool.false_eq_true,if_false]
  refine⟨.map es clock,.inr (by rw[e1];simp),(fun _ _ _=>by simp),rfl,?_⟩
  simp only[au,bind_pure,bind_assoc]
  rw[Gg,JW hm1]
  have hlk:=xK (k:=a) (m:=m) (i:=0)
  rw[hm3]at hlk
  cases hf:Yg a m 0 with
  | none=>
   rw[hf]at hlk
   rw[←hlk]at H
   simp only[bind_assoc]
   rw[fG (P:=x.P) (t:=vt)]
   simp only[bind_pure]
   exact⟨_,.inl rfl,H⟩
  | some r=>
   obtain⟨i,v⟩:=r
   rw[hf]at hlk
   rw[←hlk]at H
   simp only[bind_pure]
   exact⟨_,.inl rfl,H⟩
theorem Yh{t kt vt s b:Nat}{z:Value}{zc:Array Value}{y k:Operand}{β clock:Nat}{es:Array MapEntry}{f:Int→Option Value}{a:Int}{U:Obj→ah}(ho:o.op= .lookup t y k true)[TD x.P t (.map kt vt)][TD x.P kt (.int .i64)][TI x.P vt s b z zc](hy:ev ρ y=some (.map (some β)))(hk:ev ρ k=some (.int .i64 a))(hl:At β (.map es clock) F U)(hm:ER es f)
  (H:R (.tuple #[(f a).getD z,.bool (f a).isSome]) F):Ef x ρ o F R:=
 Ef.xW fun e he h' hE=>by
  obtain⟨F1,F2,e1,e2⟩:=hl.split
  obtain⟨m,hm1,hm2,hm3⟩:=hm
  simp only[execOp,ho,he y _ hy,he k _ hk,Instr.lookup,bind_eq,au,bind_assoc,bind_pure,aC,if_true]
  refine⟨.map es clock,.inr (by rw[e1];simp),(fun _ _ _=>by simp),rfl,?_⟩
  simp only[au,bind_pure,bind_assoc]
  rw[Gg,JW hm1]
  have hlk:=xK (k:=a) (m:=m) (i:=0)
  rw[hm3]at hlk
  cases hf:Yg a m 0 with
  | none=>
   rw[hf]at hlk
   rw[←hlk]at H
   simp only[bind_assoc]
   rw[fG (P:=x.P) (t:=vt)]
   simp only[bind_pure]
   exact⟨_,.inl rfl,H⟩
  | some r=>
   obtain⟨i,v⟩:=r
   rw[hf]at hlk
   rw[←hlk]at H
   simp only[bind_pure]
   exact⟨_,.inl rfl,H⟩

theorem JX{k:Int}{v:Value}:∀{m:List (Int×Value)} {i:Nat} {u:Value},(m.map (·.1)).Nodup→m[i]? =some (k,u)→(∀x,(m.set i (k,v)).lookup x=if x=k then some v else m.lookup x)∧(m.set i (k,v)).map (·.1)=m.map (·.1)
 | [],i,u,_,h=>by simp at h
 | p::m,0,u,hn,h=>by
  simp at h;subst h
  refine⟨fun x=>?_,by simp⟩
  simp only[List.set_cons_zero,lkc]
  by_cases hx:x=k
  ·simp[hx]
  ·have:(x==k)=false:=by simpa using hx
   simp[this,hx]
 | p::m,i+1,u,hn,h=>by
  simp only[List.map_cons,List.nodup_cons]at hn
  obtain⟨h1,h2⟩:=JX (v:=v) hn.2 (i:=i) (u:=u) (by simpa using h)
  refine⟨fun x=>?_,by simp[h2]⟩
  simp only[List.set_cons_succ,lkc,h1]
  have hpk:p.1≠k:=fun e=>hn.1 (List.mem_map.2 ⟨(k,u),List.mem_of_getElem? (by simpa using h),e.symm⟩)
  by_cases hx:x=p.1
  ·have:(x==p.1)=true:=by simpa using hx
   have hk:¬x=k:=by rw[hx];exact hpk
   simp only[this,if_neg hk]
  ·have:(x==p.1)=false:=by simpa using hx
   rw[this]
theorem JY{k:Int}{m:List (Int×Value)}(h:m.lookup k=none):k∉m.map (·.1):=by
 induction m with
 | nil=>simp
 | cons p m ih=>
  rw[lkc]at h
  by_cases hx:k=p.1
  ·have:(k==p.1)=true:=by simpa using hx
   rw[this]at h;cases h
  ·have:(k==p.1)=false:=by simpa using hx
   rw[this]at h
   simp[hx,ih h]
theorem SB{k:Int}{v:Value}{m:List (Int×Value)}(h:m.lookup k=none)(x:Int):(m++[(k,v)]).lookup x=if x=k then some v else m.lookup x:=by
 induction m with
 | nil=>
  simp only[List.nil_append,lkc,List.lookup_nil]
  by_cases hx:x=k
  ·simp[hx]
  ·have:(x==k)=false:=by simpa using hx
   simp[this,hx]
 | cons p m ih=>
  rw[lkc]at h
  by_cases hp:k=p.1
  ·have:(k==p.1)=true:=by simpa using hp
   rw[this]at h;cases h
  ·have hpb:(k==p.1)=false:=by simpa using hp
   rw[hpb]at h
   rw[List.cons_append,lkc,lkc,ih h]
   by_cases hx:x=p.1
   ·have:(x==p.1)=true:=by simpa using hx
    have hk:¬x=k:=by rw[hx];exact Ne.symm hp
    simp only[this,if_neg hk]
   ·have:(x==p.1)=false:=by simpa using hx
    rw[this]
theorem ahh{k:Int}{u:Value}:∀{m:List (Int×Value)} {i:Nat},(m.map (·.1)).Nodup→m[i]? =some (k,u)→((m.eraseIdx i).map (·.1)).Nodup∧∀x,(m.eraseIdx i).lookup x=if x=k then none else m.lookup x
 | [],i,_,h=>by simp at h
 | p::m,0,hn,h=>by
  simp at h;subst h
  simp only[List.map_cons,List.nodup_cons]at hn
  refine⟨hn.2,fun x=>?_⟩
  simp only[List.eraseIdx_zero,List.tail_cons,lkc]
  by_cases hx:x=k
  ·subst hx
   have:m.lookup x=none:=by
    cases hl:m.lookup x with
    | none=>rfl
    | some v=>
     exfalso
     refine hn.1 ?_
     have key:∀{m:List (Int×Value)},m.lookup x=some v→x∈m.map (·.1):=by
      intro m
      induction m with
      | nil=>intro h;cases h
      | cons q m ih=>
       intro h
       rw[lkc]at h
       by_cases hq:x=q.1
       ·simp[hq]
       ·have:(x==q.1)=false:=by simpa using hq
        rw[this]at h
        simp[ih h]
     exact key hl
   rw[this];simp
  ·have:(x==k)=false:=by simpa using hx
   simp[this,hx]
 | p::m,i+1,hn,h=>by
  simp only[List.map_cons,List.nodup_cons]at hn
  obtain⟨h1,h2⟩:=ahh hn.2 (i:=i) (by simpa using h)
  have hpk:p.1≠k:=fun e=>hn.1 (List.mem_map.2 ⟨(k,u),List.mem_of_getElem? (by simpa using h),e.symm⟩)
  refine⟨?_,fun x=>?_⟩
  ·simp only[List.eraseIdx_cons_succ,List.map_cons,List.nodup_cons]
   refine⟨fun hm=>hn.1 ?_,h1⟩
   obtain⟨q,hq,e⟩:=List.mem_map.1 hm
   exact List.mem_map.2 ⟨q,List.mem_of_mem_eraseIdx hq,e⟩
  ·simp only[List.eraseIdx_cons_succ,lkc,h2]
   by_cases hx:x=p.1
   ·have:(x==p.1)=true:=by simpa using hx
    have hk:¬x=k:=by rw[hx];exact hpk
    simp only[this,if_neg hk]
   ·have:(x==p.1)=false:=by simpa using hx
    rw[this]

theorem SE{t kt vt:Nat}{y k v:Operand}{β clock:Nat}{es:Array MapEntry}{f:Int→Option Value}{a:Int}{u:Value}{U:Obj→ah}(ho:o.op= .mapUpdate t y k v)[TD x.P t (.map kt vt)][TD x.P kt (.int .i64)](hy:ev ρ y=some (.map (some β)))(hk:ev ρ k=some (.int .i64 a))(hv:ev ρ v=some u)(hl:At β (.map es clock) F U)(hm:ER es f)
  (H:∀es' clock',ER es' (fun x=>if x=a then some u else f x)→R undef (U (.map es' clock'))):Ef x ρ o F R:=
 Ef.xW fun e he h' hE=>by
  obtain⟨F1,F2,e1,e2⟩:=hl.split
  obtain⟨m,hm1,hm2,hm3⟩:=hm
  simp only[execOp,ho,he y _ hy,he k _ hk,he v _ hv,Instr.mapUpdate,bind_eq,au,bind_assoc,bind_pure,aC]
  refine⟨.map es clock,.inr (by rw[e1];simp),(fun _ _ _=>by simp),rfl,?_⟩
  simp only[au,bind_pure,bind_assoc]
  rw[Gg,JW hm1]
  have hlk:=xK (k:=a) (m:=m) (i:=0)
  cases hf:Yg a m 0 with
  | none=>
   rw[hf]at hlk
   refine⟨.map es clock,F1,F2,e1,(fun _ _ _=>by simp),rfl,?_⟩
   have:=H (es.push {key:=nI a,val:=u,born:=clock}) (clock+1) ⟨m++[(a,u)],by simp[hm1],by
    rw[List.map_append,List.nodup_append]
    refine⟨hm2,by simp,fun b hb c hc=>?_⟩
    simp at hc
    subst hc
    rintro rfl
    exact JY hlk.symm hb,fun x=>by rw[SB hlk.symm,hm3]⟩
   rw[e2]at this
   exact⟨_,.inr ⟨rfl,rfl⟩,this⟩
  | some r=>
   obtain⟨i,v'⟩:=r
   obtain⟨n,hn1,hn2⟩:=Qk hf
   simp only[Nat.zero_add]at hn1
   subst hn1
   have hes:∃me,es.toList[i]? =some me∧me.key=nI a:=by
    have h9:=congrArg (·[i]?) hm1
    simp only[List.getElem?_map,hn2,Option.map_some]at h9
    obtain⟨me,h10,h11⟩:=Option.map_eq_some_iff.1 h9
    simp only[Prod.mk.injEq]at h11
    exact⟨me,h10,h11.1⟩
   obtain⟨me,hme,hmk⟩:=hes
   have hes2:es[i]? =some me:=by rw[←Array.getElem?_toList];exact hme
   have hsb:Instr.sameBits 10000 (nI a) (nI a)=true:=by simp[Instr.sameBits]
   simp only[hes2,Option.map_some,Option.getD_some,hmk,Instr.keyThatStays,bind_eq,au,hsb,if_true]
   simp only[bind_pure,bind_assoc]
   refine⟨.map es clock,F1,F2,e1,(fun _ _ _=>by simp),rfl,?_⟩
   obtain⟨q1,q2⟩:=JX (v:=u) hm2 hn2
   have:=H (es.modify i fun e=>{e with key:=nI a,val:=u}) clock ⟨m.set i (a,u),by
    rw[Array.toList_modify]
    apply List.ext_getElem?
    intro j
    have h9:=congrArg (·[j]?) hm1
    simp only[List.getElem?_map]at h9
    simp only[List.getElem?_map,List.getElem?_modify,List.getElem?_set]
    by_cases hj:i=j
    ·subst hj
     have hlt:i<m.length:=by
      rcases Nat.lt_or_ge i m.length with h' | h'
      ·exact h'
      ·rw[List.getElem?_eq_none h']at hn2;cases hn2
     simp[hme,hlt]
    ·simp only[if_neg hj]
     simpa using h9,by rw[q2];exact hm2,fun x=>by rw[q1,hm3]⟩
   rw[e2]at this
   exact⟨_,.inr ⟨rfl,rfl⟩,this⟩
theorem ajk{t kt vt:Nat}{t2:TypeId}{y k:Operand}{β clock:Nat}{es:Array MapEntry}{f:Int→Option Value}{a:Int}{U:Obj→ah}(ho:o.op= .call ⟨.builtin .delete, #[y,k], #[t,t2]⟩)[TD x.P t (.map kt vt)][TD x.P kt (.int .i64)](hy:ev ρ y=some (.map (some β)))(hk:ev ρ k=some (.int .i64 a))(hl:At β (.map es clock) F U)(hm:ER es f)
  (H:∀es' clock',ER es' (fun x=>if x=a then none else f x)→R (.tuple #[]) (U (.map es' clock'))):Ef x ρ o F R:=
 Ef.xW fun e he h' hE=>by
  obtain⟨F1,F2,e1,e2⟩:=hl.split
  obtain⟨m,hm1,hm2,hm3⟩:=hm
  have a1:(#[t,t2]:Array TypeId)[0]? =some t:=rfl
  have a2:(#[Value.map (some β),nI a]:Array Value)[0]? =some (.map (some β)):=rfl
  have a3:(#[Value.map (some β),nI a]:Array Value)[1]? =some (nI a):=rfl
  simp only[execOp,ho,resolve,invoke,builtin,List.map_toArray,List.map_cons,List.map_nil,he y _ hy,he k _ hk,Builtin.delete_,a1,a2,a3,bind_eq,au,bind_assoc,bind_pure,aC]
  refine⟨.map es clock,.inr (by rw[e1];simp),(fun _ _ _=>by simp),rfl,?_⟩
  simp only[au,bind_pure,bind_assoc]
  rw[Gg,JW hm1]
  have hlk:=xK (k:=a) (m:=m) (i:=0)
  cases hf:Yg a m 0 with
  | none=>
   rw[hf]at hlk
   refine⟨.map es clock,F1,F2,e1,(fun _ _ _=>by simp),rfl,?_⟩
   have:=H es clock ⟨m,hm1,hm2,fun x=>by
    rw[hm3]
    show f x=if x=a then none else f x
    by_cases hx:x=a
    ·rw[if_pos hx,hx,←hm3];exact hlk.symm
    ·rw[if_neg hx]⟩
   rw[e2]at this
   exact⟨_,.inl rfl,this⟩
  | some r=>
   obtain⟨i,v'⟩:=r
   obtain⟨n,hn1,hn2⟩:=Qk hf
   simp only[Nat.zero_add]at hn1
   subst hn1
   refine⟨.map es clock,F1,F2,e1,(fun _ _ _=>by simp),rfl,?_⟩
   obtain⟨q1,q2⟩:=ahh hm2 hn2
   have:=H (es.eraseIdxIfInBounds i) clock ⟨m.eraseIdx i,by
    have hlt:i<es.size:=by
     have h9:=congrArg List.length hm1
     simp at h9
     rcases Nat.lt_or_ge i m.length with h' | h'
     ·omega
     ·rw[List.getElem?_eq_none h']at hn2;cases hn2
    rw[Array.eraseIdxIfInBounds,dif_pos hlt,Array.toList_eraseIdx]
    apply List.ext_getElem?
    intro j
    have g1:=congrArg (·[j]?) hm1
    have g2:=congrArg (·[j+1]?) hm1
    simp only[List.getElem?_map]at g1 g2
    simp only[List.getElem?_map,List.getElem?_eraseIdx]
    split <;>assumption,q1,fun x=>by rw[q2,hm3]⟩
   rw[e2]at this
   exact⟨_,.inl rfl,this⟩
theorem Yi{t kt vt:Nat}{y:Operand}{β clock:Nat}{es:Array MapEntry}{U:Obj→ah}(ho:o.op= .call ⟨.builtin .clear, #[y], #[t]⟩)[TD x.P t (.map kt vt)](hy:ev ρ y=some (.map (some β)))(hl:At β (.map es clock) F U)
  (H:R (.tuple #[]) (U (.map #[] clock))):Ef x ρ o F R:=
 Ef.xW fun e he h' hE=>by
  obtain⟨F1,F2,e1,e2⟩:=hl.split
  have a1:(#[t]:Array TypeId)[0]? =some t:=rfl
  have a2:(#[Value.map (some β)]:Array Value)[0]? =some (.map (some β)):=rfl
  simp only[execOp,ho,resolve,invoke,builtin,List.map_toArray,List.map_cons,List.map_nil,he y _ hy,Builtin.clear_,a1,a2,bind_eq,au,bind_assoc,bind_pure,aC]
  refine⟨.map es clock,.inr (by rw[e1];simp),(fun _ _ _=>by simp),rfl,?_⟩
  simp only[au,bind_pure,bind_assoc]
  refine⟨.map es clock,F1,F2,e1,(fun _ _ _=>by simp),rfl,?_⟩
  rw[e2]at H
  exact⟨_,.inl rfl,H⟩
end rules
end Go.aS
