/- What stands on a floor on each day. Conditions: none. (And 15 texts more.) -/
import Derived.Test.YtahkljmgmgacjaaDoorR07
set_option linter.unusedVariables false
set_option linter.unusedSimpArgs false
set_option linter.unusedSectionVars false

/- What stands on a floor on each day. Conditions: none. -/
namespace Go.aS
structure Sp where
 (lo hi:Int)
 deriving DecidableEq
def Sp.row(s:Sp):List Value:=[I s.lo,I s.hi]
instance:Rw Sp.row 2:=⟨fun _=>rfl,fun _=>rfl⟩
abbrev aIu(a b:Int):Int:=IntKind.i64.wrap (a+b)
def bump(d:List Sp)(i:Nat)(b:Bool)(co:Int):List Sp:=match d[i]? with
 | some s=>d.set i ⟨if b then aIu s.lo co else s.lo,aIu s.hi co⟩
 | none=>d
def aCk(day lo co:Int):Nat→Nat→List Sp→List Sp
 | 0,_,d=>d
 | m+1,n,d=>if 21<day+n then d else aCk day lo co m (n+1) (bump d (day+n).toNat (decide ((n:Int)<lo)) co)
def aCF(ss:List St)(i:Int):Int:=(ss.getD i.toNat ⟨0,0,0⟩).co
def aBY(fs:List Fl)(f:Int):Fl:=fs.getD f.toNat ⟨0,0,0,0⟩
def aFu:List Sp:=List.replicate 22 ⟨0,0⟩
def aC8(fs:List Fl)(ss:List St)(p:List Be)(f:Int):List Sp:=
 (JL p f).foldl (fun d i=>aCk (dayOf p i) (aBY fs f).lo (aCF ss i) (aBY fs f).hi.toNat 0 d) aFu
theorem aF4{d:List Sp}{i:Nat}{b:Bool}{co:Int}:(bump d i b co).length=d.length:=by
 unfold bump;split <;>simp
theorem aEl{day lo co:Int}:∀(m n:Nat) (d:List Sp),(aCk day lo co m n d).length=d.length
 | 0,_,_=>rfl
 | m+1,n,d=>by
  unfold aCk
  split
  ·rfl
  ·rw[aEl,aF4]
theorem aG8{fs:List Fl}{ss:List St}{p:List Be}{f:Int}:(aC8 fs ss p f).length=22:=by
 have:∀(l:List Int) (d:List Sp),(l.foldl (fun d i=>aCk (dayOf p i) (aBY fs f).lo (aCF ss i) (aBY fs f).hi.toNat 0 d) d).length=d.length:=by
  intro l
  induction l with
  | nil=>intro d;rfl
  | cons a l ih=>intro d;rw[List.foldl_cons,ih,aEl]
 rw[aC8,this];rfl
abbrev aJv(d:List Sp):Value:=.agg (flat Sp.row d).toArray
theorem aGW{d:List Sp}(h:d.length=22):(flat Sp.row d).toArray.size=44:=by simp[jT,h]
theorem aFJ{d:List Sp}{i:Nat}{s:Sp}(h:d[i]? =some s):(flat Sp.row d).toArray[0+i*2]? =some (I s.lo)∧(flat Sp.row d).toArray[0+i*2+1]? =some (I s.hi):=by
 have hP:Part (flat Sp.row d).toArray 0 (flat Sp.row d):=Part.all _
 exact⟨hP.Bo h 0 (by decide),hP.Bo h 1 (by decide)⟩
theorem aI9{d:List Sp}{i:Nat}{s:Sp}(h:d[i]? =some s):(flat Sp.row d).toArray.extract (i*2) (i*2+2)= #[I s.lo,I s.hi]:=by
 have hP:Part (flat Sp.row d).toArray 0 (flat Sp.row d):=Part.all _
 have:=(hP.abd h).1
 simpa[Sp.row]using this
theorem aGF{l:List Value}{i:Nat}{v:Value}(h:l[i]? =some v):l.set i v=l:=by
 apply List.ext_getElem?
 intro j
 rw[List.getElem?_set]
 split
 ·rename_i e;subst e
  rcases Nat.lt_or_ge i l.length with h' | h'
  ·simp[h',←h]
  ·rw[List.getElem?_eq_none h']at h;cases h
 ·rfl
theorem aG9{d:List Sp}{i:Nat}{s:Sp}(h:i<d.length):((flat Sp.row d).toArray.setIfInBounds (0+i*2) (I s.lo)).setIfInBounds (0+i*2+1) (I s.hi)=(flat Sp.row (d.set i s)).toArray:=by
 induction d generalizing i with
 | nil=>simp at h
 | cons a d ih=>
  cases i with
  | zero=>simp[iV,Sp.row]
  | succ i=>
   have:=ih (i:=i) (by simpa using h)
   simp only[List.set_cons_succ,iV]
   apply Array.ext'
   have h2:=congrArg Array.toList this
   simp only[Array.toList_setIfInBounds,Nat.zero_add]at h2⊢
   have e1:(i+1)*2=i*2+2:=by omega
   rw[e1,←h2]
   simp[Sp.row]
theorem aI_{d:List Sp}{i:Nat}{s:Sp}{x:Int}(h:d[i]? =some s):(flat Sp.row d).toArray.setIfInBounds (0+i*2+1) (I x)=(flat Sp.row (d.set i ⟨s.lo,x⟩)).toArray:=by
 have hi:i<d.length:=by
  rcases Nat.lt_or_ge i d.length with h' | h'
  ·exact h'
  ·rw[List.getElem?_eq_none h']at h;cases h
 rw[←aG9 hi]
 congr 1
 have:=(aFJ h).1
 apply Array.ext'
 simp only[Array.toList_setIfInBounds]
 have h2:(flat Sp.row d)[0+i*2]? =some (I s.lo):=by simpa using this
 rw[aGF h2]
theorem aHP{d:List Sp}{i:Nat}{s:Sp}{x:Int}(h:d[i]? =some s):(flat Sp.row d).toArray.setIfInBounds (0+i*2+0) (I x)=(flat Sp.row (d.set i ⟨x,s.hi⟩)).toArray:=by
 have hi:i<d.length:=by
  rcases Nat.lt_or_ge i d.length with h' | h'
  ·exact h'
  ·rw[List.getElem?_eq_none h']at h;cases h
 rw[←aG9 hi]
 have:=(aFJ h).2
 apply Array.ext'
 simp only[Array.toList_setIfInBounds]
 have h2:((flat Sp.row d).set (0+i*2) (I x))[0+i*2+1]? =some (I s.hi):=by
  rw[List.getElem?_set_ne (by omega)];simpa using this
 rw[aGF h2]
 rw[Nat.add_zero]

structure aFo(fs:List Fl)(ss:List St):Prop where
 nf:1≤fs.length∧fs.length≤2
 ns:ss.length≤4
 fl:∀f∈fs,1≤f.pl∧f.pl≤9∧1≤f.lo∧f.lo≤f.hi∧f.hi≤6∧0≤f.co∧f.co≤9
 st:∀s∈ss,0≤s.day∧s.day≤12∧1≤s.co∧s.co≤6∧0≤s.wa∧s.wa≤5
structure aHw(fs:List Fl)(ss:List St)(p:List Be):Prop where
 ok:aGV p
 fl:∀b∈p,b.fl<fs.length
 pad:∀i,ss.length≤i→(aBw p i).fl<0
theorem aGX{p:List Be}{f:Int}:∀{k:Nat} {a:Int},a∈aDW p f k→(aBw p a.toNat).fl=f
 | 0,_,h=>by simp[aDW]at h
 | k+1,a,h=>by
  unfold aDW at h
  split at h
  ·rename_i hk
   rcases List.mem_append.1 h with h | h
   ·exact aGX h
   ·have:a=k:=by simpa using h
    subst this;simpa using hk
  ·exact aGX h
theorem aJa{p:List Be}{f a:Int}(h:a∈JL p f):(aBw p a.toNat).fl=f:=aGX ((aDV _ _).subset h)
theorem aHQ{fs:List Fl}{ss:List St}{p:List Be}{f a:Int}(hp:aHw fs ss p)(hf:0≤f)(h:a∈JL p f):a.toNat<ss.length:=by
 rcases Nat.lt_or_ge a.toNat ss.length with h' | h'
 ·exact h'
 ·have:=hp.pad _ h'
  rw[aJa h]at this
  omega

theorem aG_{σ X:Type}{st:σ→X→σ}:∀(xs:List X) (s:σ),(runs (BN st fun _ _=>none) (s,none) xs).1=(xs.foldl st s,none)
 | [],s=>rfl
 | p::xs,s=>by
  simp only[runs,BN,Option.isNone_none]
  exact aG_ xs (st s p)
end Go.aS

/- What stands on a floor. Conditions: none; over the given program. -/
namespace Go.aS
set_option maxRecDepth 100000
set_option maxHeartbeats 4000000
instance aKA:TI prog aHt 44 352 (.agg (flat Sp.row aFu).toArray) (flat Sp.row aFu).toArray:=⟨by kernel_rfl,rfl⟩

theorem aIa(main:Side)(h:Hp)(fs:List Fl)(ss:List St)(p:List Be)(f:Int)(vf vs:Value)(hf:Sl h Fl.row vf fs)(hs:Sl h St.row vs ss)(hall:aFo fs ss)(hp:aHw fs ss p)(hf0:0≤f)(hf1:f<fs.length):Pu prog main aCX #[.agg #[vf,vs],adu p,I f] h (aJv (aC8 fs ss p f)):=by
 obtain⟨a,cap,rfl⟩:=hf.dA
 obtain⟨a',cap',rfl⟩:=hs.dA
 obtain⟨fl,hfl,-⟩:=has (show f.toNat<fs.length by omega)
 have hfe:aBY fs f=fl:=by simp[aBY,List.getD,hfl]
 have aLf:=hall.fl fl (List.mem_of_getElem? hfl)
 obtain⟨b,off,c,E,fz,rfl,hb,hx,hy,hz⟩:=hf.at hfl
 have hz1:c[off+f.toNat*4+1]? =some (I fl.lo):=hz 1 (by decide)
 have hz2:c[off+f.toNat*4+2]? =some (I fl.hi):=hz 2 (by decide)
 have hsp:c.extract (off+f.toNat*4+1) (off+f.toNat*4+1+2)= #[I fl.lo,I fl.hi]:=by
  apply Array.ext
  ·simp;omega
  ·intro i h1 h2
   simp at h2
   have:c[off+f.toNat*4+1+i]? = #[I fl.lo,I fl.hi][i]? :=by
    rcases(by omega:i=0∨i=1)with rfl | rfl
    ·simpa using hz1
    ·simpa using hz2
   rw[←Option.some_inj,←Array.getElem?_eq_getElem,←Array.getElem?_eq_getElem,←this,Array.getElem?_extract]
   simp;omega
 have hsz:=aHO hp.ok
 refine dV.aG aEa rfl (by show 3≤71;decide) [(0,.agg #[.slice (some ⟨b,off,none⟩) fs.length cap,.slice a' ss.length cap']),(1,adu p),(2,I f)] ⟨rfl,rfl,rfl,trivial⟩ ?_
 refine W.seq<|W.region rfl ?_
 refine Ops.box (fun uU=>?_)
 refine Ops.box (fun wC=>?_)
 refine Ops.new (fun yC=>?_)
 refine pq<|W.seq<|W.region rfl ?_
 refine Ops.new (fun Vo=>?_)
 refine pq<|W.seq<|W.region rfl ?_
 refine agY rfl ?_
 refine agY rfl ?_
 refine agX rfl ?_
 refine qm rfl rfl rfl ?_
 refine ag3 rfl ?_
 refine agY rfl ?_
 refine agW (zi rfl rfl (.inl hb) (by omega) hsp) rfl ?_
 refine Ops.new (fun yD=>?_)
 first | refine Ops.jP ?_ | refine Ops.nY ?_
 refine pq<|W.seq<|W.seq<|W.region rfl ?_
 first | refine ag2 rfl ?_ | refine agW (ady rfl rfl) rfl ?_
 first | refine ag2 rfl ?_ | refine agW (ady rfl rfl) rfl ?_
 refine qm rfl rfl rfl ?_
 refine c0 (fun h' hE hL=>aJE _ h' p f _ _ rfl rfl) (fun v A' hv=>?_)
 obtain⟨b4,b5,b3,rfl,rfl⟩:=hv
 refine pq<|W.block ?_
 refine W.range (σ:=List Sp) (X:=Int) (enc:=I) (xs:=JL p f) rfl rfl rfl (fun d i=>aCk (dayOf p i) fl.lo (aCF ss i) fl.hi.toNat 0 d) (fun _ _=>none) (fun d A=>d.length=22∧A=[(Vo,.cells (flat Sp.row d).toArray aHt (0,0))]) aFu (.tail (.tail (.tail (.tail .head)))) ⟨rfl,rfl⟩ (fun h' hE hL=>aH_ _ h' p hp.ok f b4 b5 _ _ _ _ (hL b4 _ (by repeat(first | exact List.Mem.head _ | apply List.Mem.tail))) (hL b5 _ (by repeat(first | exact List.Mem.head _ | apply List.Mem.tail)))) (fun _ _ _ e=>by cases e) ?_ ?_
 ·rintro d i A hi ⟨hd,rfl⟩ l h1 hE1 hL1
  refine W.region rfl<|agb rfl rfl rfl<|Ops.nil ?_
  refine⟨rfl,rfl,fun h0 hE0 hL0=>?_⟩
  have h8:h0 yD=some (.cells #[I fl.lo,I fl.hi] eG (0,0)):=hL0 _ _ (by repeat(first | exact List.Mem.head _ | apply List.Mem.tail))
  have h4:h0 wC=some (.cells (flat Be.row p).toArray aF1 (0,0)):=hL0 _ _ (by repeat(first | exact List.Mem.head _ | apply List.Mem.tail))
  have h3:h0 uU=some (.cells #[.slice (some ⟨b,off,none⟩) fs.length cap,.slice a' ss.length cap'] aHs (0,0)):=hL0 _ _ (by repeat(first | exact List.Mem.head _ | apply List.Mem.tail))
  have hi4:=aI6 hi
  obtain⟨s,hsi,-⟩:=has (aHQ hp hf0 hi)
  have hco:aCF ss i=s.co:=by simp[aCF,List.getD,hsi]
  obtain⟨b2,off2,c2,E2,fz2,rfl,hb2,hx2,hy2,hw2⟩:=(hs.ext hE0).at hsi
  have hwc:c2[off2+i.toNat*3+1]? =some (I s.co):=hw2 1 (by decide)
  have aJb:(flat Be.row p).toArray[0+i.toNat*2+1]? =some (I (dayOf p i)):=by have:=(aI8 hp.ok (i:=i.toNat) (by omega)).2;simpa[dayOf]using this
  have hilt:i<ss.length:=by have:=aHQ hp hf0 hi;omega
  have aLg:0≤dayOf p i∧dayOf p i≤17:=(aCq hp.ok (i:=i.toNat) (by omega)).2.2.2
  refine W.block<|W.seq<|W.region rfl ?_
  refine agY rfl ?_
  refine agX rfl ?_
  refine qm rfl rfl rfl<|pq<|W.block ?_
  refine W.aa1 (fun(n:Nat) (d':List Sp)=>n≤fl.hi.toNat∧d'.length=22∧aCk (dayOf p i) fl.lo (aCF ss i) (fl.hi.toNat-n) n d'=aCk (dayOf p i) fl.lo (aCF ss i) fl.hi.toNat 0 d) (fun n d'=>[(26,I n),(25,I fl.hi),(9,I i),(8,.pointer (some ⟨yD,0,none⟩)),(7,.pointer (some ⟨Vo,0,none⟩)),(4,.pointer (some ⟨wC,0,none⟩)),(3,.pointer (some ⟨uU,0,none⟩))]) (fun n d'=>[(Vo,.cells (flat Sp.row d').toArray aHt (0,0))]) (fun n _=>fl.hi.toNat-n) 0 d ⟨Nat.zero_le _,hd,rfl⟩ ⟨rfl,rfl,rfl,rfl,rfl,rfl,rfl,trivial⟩ .refl ?_
  rintro n d' ⟨hn,hd',hadd⟩
  refine W.seq<|W.region rfl ?_
  refine agW (fO rfl rfl rfl) rfl ?_
  refine pq<|W.seq ?_
  refine W.bC rfl (fun c27=>?_) (fun c27=>?_)
  ·have hsz':=aGW hd'
   obtain⟨m,hm⟩:∃m,fl.hi.toNat-n=m+1:=⟨fl.hi.toNat-n-1,by omega⟩
   rw[hm]at hadd
   refine W.skip<|aA<|W.seq<|W.block<|W.seq<|W.region rfl<|qm rfl rfl rfl<|agb rfl rfl rfl<|pq ?_
   refine W.seq<|W.region rfl<|qm rfl rfl rfl ?_
   first | refine agW (UN rfl rfl rfl) rfl ?_ | refine agW (Qg rfl rfl rfl) rfl ?_
   refine agY rfl ?_
   refine agX rfl ?_
   refine qm rfl rfl rfl ?_
   refine ag1 rfl ?_
   refine agb rfl rfl rfl<|pq<|W.seq<|W.seq<|W.region rfl<|qm rfl rfl rfl ?_
   refine agW (rC rfl rfl rfl) rfl ?_
   refine pq ?_
   refine W.bC rfl (fun c36=>?_) (fun c36=>?_)
   ·refine W.exit<|bP<|Tt<|bP<|bP<|gG<|dI ?_
    have e:aCk (dayOf p i) fl.lo (aCF ss i) fl.hi.toNat 0 d=d':=by
     rw[←hadd]
     first
     | (simp only[aCk];rw[if_pos c36])
     | (rw[show fl.hi.toNat-n=0 by omega];rfl)
    refine⟨rfl,rfl,_,⟨(aEl _ _ _).trans hd,rfl⟩,?_⟩
    rw[e]
    exact .refl
   ·obtain⟨x,hx',-⟩:=has (show(dayOf p i+n).toNat<d'.length by omega)
    have hxa:=aFJ hx'
    have hxl:=hxa.1
    have hxh:=hxa.2
    refine W.skip<|aA<|W.seq ?_
    refine W.DR [] (n:=15) rfl ?_
    refine xq 0 (aN rfl rfl) rfl ?_
    first | refine xq 1 (UN rfl rfl rfl) rfl ?_ | refine xq 1 (Qg rfl rfl rfl) rfl ?_
    refine xq 2 (ay rfl rfl) rfl ?_
    refine xq 4 (ay rfl rfl) rfl ?_
    refine xq 5 (ay rfl rfl) rfl ?_
    refine xq 6 (iQ rfl rfl) rfl ?_
    refine xq 7 (aN rfl rfl) rfl ?_
    first | refine xq 8 (G_ rfl rfl rfl) rfl ?_ | refine xq 8 (o_ rfl rfl rfl) rfl ?_
    refine xq 9 (ay rfl rfl) rfl ?_
    refine xq 10 (iQ rfl rfl) rfl ?_
    refine ae (i:=3) rfl an rfl rfl (Ef.ZJ (iQ rfl rfl) ?_)
    refine⟨.inr (by first | exact Keeps.refl | exact Keeps.nil | ((repeat(first | exact fun _ h=>h | apply Keeps.cons | apply Keeps.app)) <;>fail) | (repeat(first | exact Keeps.nil | refine Keeps.one (by repeat(first | exact List.Mem.head _ | apply List.Mem.tail)) ?_))),?_⟩
    first | refine xq 11 (Zi rfl rfl rfl) rfl ?_ | refine xq 11 (MZ rfl rfl rfl) rfl ?_
    first | refine xq 12 (UN rfl rfl rfl) rfl ?_ | refine xq 12 (Qg rfl rfl rfl) rfl ?_
    refine xq 13 (ay rfl rfl) rfl ?_
    refine ae (i:=14) rfl an rfl rfl (eS rfl rfl rfl ?_)
    refine⟨.inl (by kernel_rfl),?_⟩
    refine az ?_
    refine aA<|W.seq ?_
    rw[aI_ hx']
    refine W.region rfl<|qm rfl rfl rfl ?_
    refine agY rfl ?_
    refine agX rfl ?_
    refine agW (fO rfl rfl rfl) rfl ?_
    refine pq ?_
    refine W.bC rfl (fun c54=>?_) (fun c54=>?_)
    ·have hx3:(d'.set (dayOf p i+n).toNat ⟨x.lo,IntKind.i64.wrap (x.hi+s.co)⟩)[(dayOf p i+n).toNat]? =some ⟨x.lo,IntKind.i64.wrap (x.hi+s.co)⟩:=by rw[List.getElem?_set_self (by omega)]
     have hsz3:=aGW (d:=d'.set (dayOf p i+n).toNat ⟨x.lo,IntKind.i64.wrap (x.hi+s.co)⟩) (by simpa using hd')
     have aLh:=(aFJ hx3).1
     refine W.DR [] (n:=15) rfl ?_
     refine xq 0 (aN rfl rfl) rfl ?_
     first | refine xq 1 (UN rfl rfl rfl) rfl ?_ | refine xq 1 (Qg rfl rfl rfl) rfl ?_
     refine xq 2 (ay rfl rfl) rfl ?_
     refine xq 4 (ay rfl rfl) rfl ?_
     refine xq 5 (ay rfl rfl) rfl ?_
     refine xq 6 (iQ rfl rfl) rfl ?_
     refine xq 7 (aN rfl rfl) rfl ?_
     first | refine xq 8 (G_ rfl rfl rfl) rfl ?_ | refine xq 8 (o_ rfl rfl rfl) rfl ?_
     refine xq 9 (ay rfl rfl) rfl ?_
     refine xq 10 (iQ rfl rfl) rfl ?_
     refine ae (i:=3) rfl an rfl rfl (Ef.ZJ (iQ rfl rfl) ?_)
     refine⟨.inr (by first | exact Keeps.refl | exact Keeps.nil | ((repeat(first | exact fun _ h=>h | apply Keeps.cons | apply Keeps.app)) <;>fail) | (repeat(first | exact Keeps.nil | refine Keeps.one (by repeat(first | exact List.Mem.head _ | apply List.Mem.tail)) ?_))),?_⟩
     first | refine xq 11 (Zi rfl rfl rfl) rfl ?_ | refine xq 11 (MZ rfl rfl rfl) rfl ?_
     first | refine xq 12 (UN rfl rfl rfl) rfl ?_ | refine xq 12 (Qg rfl rfl rfl) rfl ?_
     refine xq 13 (ay rfl rfl) rfl ?_
     refine ae (i:=14) rfl an rfl rfl (eS rfl rfl rfl ?_)
     refine⟨.inl (by kernel_rfl),?_⟩
     refine az ?_
     refine dI<|aA ?_
     try rw[aHP hx3]
     refine W.region rfl ?_
     refine ag1 rfl ?_
     refine qm rfl rfl rfl<|pq ?_
     have hb:aCk (dayOf p i) fl.lo (aCF ss i) m (n+1) (bump d' (dayOf p i+n).toNat (decide ((n:Int)<fl.lo)) (aCF ss i))=aCk (dayOf p i) fl.lo (aCF ss i) fl.hi.toNat 0 d:=by
      rw[←hadd];simp only[aCk];rw[if_neg c36]
     have hm':fl.hi.toNat- (n+1)=m:=by omega
     refine⟨rfl,n+1,bump d' (dayOf p i+n).toNat (decide ((n:Int)<fl.lo)) (aCF ss i),⟨by omega,by rw[aF4];exact hd',by rw[hm'];exact hb⟩,by omega,⟨rfl,rfl,rfl,rfl,rfl,rfl,rfl,trivial⟩,.dF ?_⟩
     simp only[bump,hx',hco,c54,decide_true,decide_false,if_true,Bool.false_eq_true,if_false,List.set_set]
     exact .refl _
    ·refine W.skip<|dI<|aA ?_
     try rw[aHP hx3]
     refine W.region rfl ?_
     refine ag1 rfl ?_
     refine qm rfl rfl rfl<|pq ?_
     have hb:aCk (dayOf p i) fl.lo (aCF ss i) m (n+1) (bump d' (dayOf p i+n).toNat (decide ((n:Int)<fl.lo)) (aCF ss i))=aCk (dayOf p i) fl.lo (aCF ss i) fl.hi.toNat 0 d:=by
      rw[←hadd];simp only[aCk];rw[if_neg c36]
     have hm':fl.hi.toNat- (n+1)=m:=by omega
     refine⟨rfl,n+1,bump d' (dayOf p i+n).toNat (decide ((n:Int)<fl.lo)) (aCF ss i),⟨by omega,by rw[aF4];exact hd',by rw[hm'];exact hb⟩,by omega,⟨rfl,rfl,rfl,rfl,rfl,rfl,rfl,trivial⟩,.dF ?_⟩
     simp only[bump,hx',hco,c54,decide_true,decide_false,if_true,Bool.false_eq_true,if_false,List.set_set]
     exact .refl _
  ·refine W.exit<|bP<|bP<|gG<|dI ?_
   have e:aCk (dayOf p i) fl.lo (aCF ss i) fl.hi.toNat 0 d=d':=by
    rw[←hadd]
    first
    | (simp only[aCk];rw[if_pos c36])
    | (rw[show fl.hi.toNat-n=0 by omega];rfl)
   refine⟨rfl,rfl,_,⟨(aEl _ _ _).trans hd,rfl⟩,?_⟩
   rw[e]
   exact .refl
 ·intro d e A he hA dd
  rw[aG_]at he
  cases he
  obtain⟨hd,rfl⟩:=hA
  refine dI<|aA<|W.seq ?_
  have aLi:=aGW hd
  have hon:ones (flat Sp.row (List.foldl (fun d i=>aCk (dayOf p i) fl.lo (aCF ss i) fl.hi.toNat 0 d) aFu (JL p f))).toArray.toList=true:=by simpa using Lu _
  refine W.region rfl ?_
  first | refine ag2 rfl ?_ | refine agW (ady rfl rfl) rfl ?_
  first | refine Ops.jP ?_ | refine Ops.nY ?_
  refine pq<|W.ret ?_
  refine lvm (hl:=At.head) (QJ (hv:=D_ zJ) ⟨?_,by repeat(first | exact Shut.nil | refine Shut.cons rfl ?_)⟩)
  simp only[aC8,hfe]
  rfl
end Go.aS

/- A valid plan is in order; what 'asked' answers, in parts. Conditions: none. -/
namespace Go.aS
theorem aFv:∀{fs:List Fl} {f:Fl},aBU fs=0→f∈fs→aAP f=0
 | [],_,_,h=>by cases h
 | g::fs,f,h,hm=>by
  simp only[aBU]at h
  split at h
  ·rename_i h1
   rcases List.mem_cons.1 hm with rfl | hm
   ·exact h1
   ·exact aFv h hm
  ·rename_i h1;exact absurd h h1
theorem aIw{f:Fl}(h:aAP f=0):1≤f.pl∧f.pl≤9∧1≤f.lo∧f.lo≤f.hi∧f.hi≤6∧0≤f.co∧f.co≤9:=by
 unfold aAP at h
 split at h
 ·cases h
 split at h
 ·cases h
 split at h
 ·cases h
 ·rename_i h1 h2 h3
  simp only[outs]at h1 h3
  omega
theorem aJc{fs:List Fl}{ss:List St}(h:aBs fs ss=0):aFo fs ss:=by
 obtain⟨h1,h2,h3,h4,h5⟩:=aEj h
 refine⟨⟨by omega,h2⟩,h3,fun f hf=>aIw (aFv h4 hf),fun s hs=>?_⟩
 obtain⟨k,hk,rfl⟩:=List.mem_iff_getElem.1 hs
 have:=aGC h (List.getElem?_eq_getElem hk)
 omega

theorem aFw{nf:Int}:∀{ss:List St} {l:List Be},aBb nf ss l=0→∀{i:Nat} {s:St} {b:Be},ss[i]? =some s→l[i]? =some b→aAq nf s b=0
 | [],l,_,i,s,b,h1,_=>by simp at h1
 | s::ss,[],_,i,_,b,_,h2=>by simp at h2
 | s::ss,b::l,h,i,s',b',h1,h2=>by
  simp only[aBb]at h
  split at h
  ·rename_i h0
   cases i with
   | zero=>simp at h1 h2;subst h1 h2;exact h0
   | succ i=>exact aFw h (by simpa using h1) (by simpa using h2)
  ·rename_i h0;exact absurd h h0
theorem aIx{nf:Int}{s:St}{b:Be}(h:aAq nf s b=0): -1≤b.fl∧b.fl<nf∧(b.fl<0→b.day=0)∧(0≤b.fl→s.day≤b.day∧b.day≤s.day+s.wa):=by
 unfold aAq at h
 split at h
 ·cases h
 rename_i h1
 split at h
 ·cases h
 rename_i h2
 split at h
 ·cases h
 rename_i h3
 simp only[outs,not_or,not_and]at h1 h2 h3
 refine⟨by omega,by omega,fun hf=>?_,fun hf=>?_⟩
 ·exact Decidable.byContradiction fun hd=>h2 hf hd
 ·have:=h3 hf;omega
theorem aFK{fs:List Fl}{ss:List St}{l:List Be}(h:aCl fs ss l=0):aFo fs ss∧aHw fs ss (aBZ l)∧l.length=ss.length:=by
 obtain⟨h1,h2,h3⟩:=aGU h
 have hall:=aJc h1
 have hn:=hall.ns
 have hf:=hall.nf
 have hmem:∀b∈l,-1≤b.fl∧b.fl<fs.length∧0≤b.day∧b.day≤17:=by
  intro b hb
  obtain⟨i,hi⟩:=List.mem_iff_getElem?.1 hb
  obtain⟨s,hs,-⟩:=has (show i<ss.length by
   rcases Nat.lt_or_ge i l.length with h' | h'
   ·omega
   ·rw[List.getElem?_eq_none h']at hi;cases hi)
  have hso:=hall.st s (List.mem_of_getElem? hs)
  obtain⟨q1,q2,q3,q4⟩:=aIx (aFw h3 hs hi)
  refine⟨q1,q2,?_,?_⟩
  ·rcases Int.lt_or_le b.fl 0 with hl | hl
   ·rw[q3 hl];omega
   ·have:=q4 hl;omega
  ·rcases Int.lt_or_le b.fl 0 with hl | hl
   ·rw[q3 hl];omega
   ·have:=q4 hl;omega
 have aKa:∀b∈aBZ l,b∈l∨b=aCB:=by
  intro b hb
  rcases List.mem_append.1 hb with hb | hb
  ·exact .inl hb
  ·exact .inr (List.eq_of_mem_replicate hb)
 refine⟨hall,⟨⟨aFN (by omega),fun b hb=>?_⟩,fun b hb=>?_,fun i hi=>?_⟩,h2⟩
 ·rcases aKa b hb with hb | rfl
  ·have:=hmem b hb;omega
  ·simp[aCB]
 ·rcases aKa b hb with hb | rfl
  ·exact(hmem b hb).2.1
  ·simp[aCB];omega
 ·have:aBw (aBZ l) i=aCB:=by
   simp only[aBw,aBZ,List.getD]
   rw[List.getElem?_append_right (by omega)]
   cases hx:(List.replicate (4-l.length) aCB)[i-l.length]? with
   | none=>rfl
   | some b=>rw[List.eq_of_mem_replicate (List.mem_of_getElem? hx)];rfl
  rw[this];simp[aCB]

theorem aIy{fs:List Fl}{ss:List St}{l:List Be}{ns:List Int}(h:aDv fs ss l ns=0):aCl fs ss l=0∧aEP fs.length ns=false:=by
 unfold aDv at h
 split at h
 ·rename_i h1;exact absurd h h1
 ·rename_i h1
  split at h
  ·cases h
  ·rename_i h2;exact⟨Decidable.byContradiction h1,by simpa using h2⟩
theorem aKb{nf n:Int}(h:aEP nf [n]=false):0≤n∧n<nf:=by
 simp only[aEP]at h
 split at h
 ·cases h
 ·rename_i h1;simp only[outs,not_or]at h1;omega
theorem aF5(vf vs:Value)(fs:List Fl)(ss:List St)(l:List Be)(ns:List Int)(h1:one vf=true)(h2:one vs=true):∃va vb pp,aH5 vf vs fs ss l ns= .tuple #[.agg #[va,vb],adu pp,I (aDv fs ss l ns)]∧one va=true∧one vb=true∧pp.length=4∧(aDv fs ss l ns=0→va=vf∧vb=vs∧pp=aBZ l):=by
 unfold aH5
 split
 ·rename_i h
  rw[h]
  obtain⟨-,hp,-⟩:=aFK (aIy h).1
  exact⟨vf,vs,aBZ l,rfl,h1,h2,hp.ok.len,fun _=>⟨rfl,rfl,rfl⟩⟩
 ·rename_i h
  exact⟨.slice none 0 0,.slice none 0 0,[⟨0,0⟩,⟨0,0⟩,⟨0,0⟩,⟨0,0⟩],rfl,rfl,rfl,rfl,fun h'=>absurd h' h⟩
end Go.aS

/- What stands on a floor, as a sum; when a floor is cold. Conditions: none. -/
namespace Go.aS
def aF6(ss:List St)(i:Nat):St:=ss.getD i ⟨0,0,0⟩

theorem aF7{a b:Int}(h0:0≤a)(h1:a≤100000)(h2:0≤b)(h3:b≤100000):aIu a b=a+b:=nC (by omega) (by omega)
def aF8(g:Nat→Int):Nat→Int
 | 0=>0
 | k+1=>aF8 g k+g k
theorem aE3{g g':Nat→Int}:∀{k:Nat},(∀i,i<k→g i=g' i)→aF8 g k=aF8 g' k
 | 0,_=>rfl
 | k+1,h=>by
  have h1:=aE3 (k:=k) fun i hi=>h i (by omega)
  have h2:=h k (by omega)
  simp only[aF8];omega
def hiG(fs:List Fl)(ss:List St)(p:List Be)(f d:Int)(i:Nat):Int:=if(aBw p i).fl=f∧(aBw p i).day≤d∧d<(aBw p i).day+(aBY fs f).hi then(aF6 ss i).co else 0
def loG(fs:List Fl)(ss:List St)(p:List Be)(f d:Int)(i:Nat):Int:=if(aBw p i).fl=f∧(aBw p i).day≤d∧d<(aBw p i).day+(aBY fs f).lo then(aF6 ss i).co else 0
def aIz(fs:List Fl)(ss:List St)(p:List Be)(f d:Int):Int:=aF8 (hiG fs ss p f d) 4
def aIA(fs:List Fl)(ss:List St)(p:List Be)(f d:Int):Int:=aF8 (loG fs ss p f d) 4

theorem bump_at{d:List Sp}{i j:Nat}{b:Bool}{co:Int}{s:Sp}(h:d[j]? =some s):(bump d i b co)[j]? =some (if i=j then⟨if b then aIu s.lo co else s.lo,aIu s.hi co⟩else s):=by
 by_cases e:i=j
 ·subst e
  have hlt:i<d.length:=by
   rcases Nat.lt_or_ge i d.length with h' | h'
   ·exact h'
   ·rw[List.getElem?_eq_none h']at h;cases h
  simp only[bump,h,if_true,List.getElem?_set_self hlt]
 ·rw[if_neg e]
  unfold bump
  split
  ·rw[List.getElem?_set_ne e,h]
  ·exact h
theorem aHa{day lo co:Int}(aJb:0≤day)(hc:0≤co∧co≤1000){j:Nat}(hj:j<22):∀(m n:Nat) (D:List Sp) (s:Sp),D[j]? =some s→(day+n≤j→0≤s.lo∧s.lo≤90000∧0≤s.hi∧s.hi≤90000)→
  (aCk day lo co m n D)[j]? =some (if day+n≤j∧(j:Int)<day+n+m then⟨if(j:Int)<day+lo then s.lo+co else s.lo,s.hi+co⟩else s)
 | 0,n,D,s,h,_=>by
  rw[aCk,h,if_neg (by omega)]
 | m+1,n,D,s,h,hs=>by
  rw[aCk]
  split
  ·rw[h,if_neg (by omega)]
  ·rename_i h21
   have hb:=bump_at (i:=(day+n).toNat) (b:=decide ((n:Int)<lo)) (co:=co) h
   have ih:=aHa (lo:=lo) aJb hc hj m (n+1) _ _ hb (fun hle=>by rw[if_neg (by omega)];exact hs (by omega))
   rw[ih]
   by_cases e:(day+n).toNat=j
   ·have e':day+n=j:=by omega
    obtain⟨q1,q2,q3,q4⟩:=hs (by omega)
    have c1:¬(day+((n+1:Nat):Int)≤j∧(j:Int)<day+((n+1:Nat):Int)+(m:Nat)):=by omega
    have c2:day+(n:Int)≤j∧(j:Int)<day+(n:Int)+((m+1:Nat):Int):=by omega
    rw[if_pos e,if_neg c1,if_pos c2,aF7 q1 (by omega) hc.1 (by omega),aF7 q3 (by omega) hc.1 (by omega)]
    by_cases hl:(n:Int)<lo
    ·rw[if_pos (show decide ((n:Int)<lo)=true by simpa using hl),if_pos (show(j:Int)<day+lo by omega)]
    ·rw[if_neg (show¬decide ((n:Int)<lo)=true by simpa using hl),if_neg (show¬(j:Int)<day+lo by omega)]
   ·rw[if_neg e]
    by_cases hc2:day+n≤j∧(j:Int)<day+n+((m+1:Nat):Int)
    ·rw[if_pos (show day+((n+1:Nat):Int)≤j∧(j:Int)<day+((n+1:Nat):Int)+(m:Nat) by omega),if_pos hc2]
    ·rw[if_neg (show¬(day+((n+1:Nat):Int)≤j∧(j:Int)<day+((n+1:Nat):Int)+(m:Nat)) by omega),if_neg hc2]

theorem aIB{α:Type}(g:α→Int){l l':List α}(h:l.Perm l'):(l.map g).sum=(l'.map g).sum:=by
 induction h with
 | nil=>rfl
 | cons x _ ih=>simp only[List.map_cons,List.sum_cons,ih]
 | swap x y l=>simp only[List.map_cons,List.sum_cons];omega
 | trans _ _ ih1 ih2=>exact ih1.trans ih2
theorem aF9{p:List Be}{f:Int}{g:Int→Int}:∀(k:Nat),((aDW p f k).map g).sum=aF8 (fun i=>if(aBw p i).fl=f then g i else 0) k
 | 0=>rfl
 | k+1=>by
  simp only[aDW,aF8]
  by_cases h:(aBw p k).fl=f
  ·rw[if_pos h,if_pos h,List.map_append,List.sum_append,aF9 k];simp
  ·rw[if_neg h,if_neg h,aF9 k];simp
theorem aKc{fs:List Fl}{ss:List St}(hall:aFo fs ss)(i:Nat):0≤(aF6 ss i).co∧(aF6 ss i).co≤6:=by
 simp only[aF6,List.getD]
 cases h:ss[i]? with
 | none=>simp
 | some s=>have:=hall.st s (List.mem_of_getElem? h);simp;omega
theorem aIC{p:List Be}(hp:aGV p)(i:Nat):0≤(aBw p i).day∧(aBw p i).day≤17:=by
 rcases Nat.lt_or_ge i 4 with h | h
 ·have:=(aCq hp h).2;omega
 ·simp[aBw,List.getD,List.getElem?_eq_none (show p.length≤i by have:=hp.len;omega),aCB]
theorem aJw{fs:List Fl}{ss:List St}(hall:aFo fs ss){f:Int}(h0:0≤f)(h1:f<fs.length):1≤(aBY fs f).pl∧(aBY fs f).pl≤9∧1≤(aBY fs f).lo∧(aBY fs f).lo≤(aBY fs f).hi∧(aBY fs f).hi≤6∧0≤(aBY fs f).co∧(aBY fs f).co≤9:=by
 obtain⟨x,hx,-⟩:=has (show f.toNat<fs.length by omega)
 have:aBY fs f=x:=by simp[aBY,List.getD,hx]
 rw[this]
 exact hall.fl x (List.mem_of_getElem? hx)

theorem aHx{fs:List Fl}{ss:List St}{p:List Be}{f:Int}(hall:aFo fs ss)(hp:aGV p)(h0:0≤f)(h1:f<fs.length){j:Nat}(hj:j<22):(aC8 fs ss p f)[j]? =some ⟨aIA fs ss p f j,aIz fs ss p f j⟩:=by
 have hfl:=aJw hall h0 h1
 have key:∀(l:List Int) (D:List Sp) (s:Sp),D[j]? =some s→0≤s.lo→0≤s.hi→s.lo+6*l.length≤9000→s.hi+6*l.length≤9000→
   (l.foldl (fun d i=>aCk (dayOf p i) (aBY fs f).lo (aCF ss i) (aBY fs f).hi.toNat 0 d) D)[j]? =some ⟨s.lo+(l.map fun i=>if dayOf p i≤j∧(j:Int)<dayOf p i+(aBY fs f).lo then aCF ss i else 0).sum,s.hi+(l.map fun i=>if dayOf p i≤j∧(j:Int)<dayOf p i+(aBY fs f).hi then aCF ss i else 0).sum⟩:=by
  intro l
  induction l with
  | nil=>intro D s h _ _ _ _;simpa using h
  | cons i l ih=>
   intro D s h q1 q2 q3 q4
   have hco:=aKc hall i.toNat
   have aJb:=(aIC hp i.toNat).1
   have ha:=aHa (day:=dayOf p i) (lo:=(aBY fs f).lo) (co:=aCF ss i) aJb (by have:aCF ss i=(aF6 ss i.toNat).co:=rfl;omega) hj (aBY fs f).hi.toNat 0 D s h (fun _=>by simp only[List.length_cons]at q3 q4;omega)
   have aLj:aCF ss i=(aF6 ss i.toNat).co:=rfl
   simp only[List.length_cons]at q3 q4
   rw[List.foldl_cons]
   by_cases hc:dayOf p i+((0:Nat):Int)≤j∧(j:Int)<dayOf p i+((0:Nat):Int)+(aBY fs f).hi.toNat
   ·rw[if_pos hc]at ha
    by_cases hl:(j:Int)<dayOf p i+(aBY fs f).lo
    ·rw[if_pos hl]at ha
     rw[ih _ _ ha (by simp only;omega) (by simp only;omega) (by simp only;omega) (by simp only;omega)]
     simp only[List.map_cons,List.sum_cons]
     rw[if_pos (show dayOf p i≤j∧(j:Int)<dayOf p i+(aBY fs f).lo by omega),if_pos (show dayOf p i≤j∧(j:Int)<dayOf p i+(aBY fs f).hi by omega),Int.add_assoc,Int.add_assoc]
    ·rw[if_neg hl]at ha
     rw[ih _ _ ha (by simp only;omega) (by simp only;omega) (by simp only;omega) (by simp only;omega)]
     simp only[List.map_cons,List.sum_cons]
     rw[if_neg (show¬(dayOf p i≤j∧(j:Int)<dayOf p i+(aBY fs f).lo) by omega),if_pos (show dayOf p i≤j∧(j:Int)<dayOf p i+(aBY fs f).hi by omega),Int.add_assoc,Int.zero_add]
   ·rw[if_neg hc]at ha
    rw[ih _ _ ha q1 q2 (by omega) (by omega)]
    simp only[List.map_cons,List.sum_cons]
    rw[if_neg (show¬(dayOf p i≤j∧(j:Int)<dayOf p i+(aBY fs f).lo) by omega),if_neg (show¬(dayOf p i≤j∧(j:Int)<dayOf p i+(aBY fs f).hi) by omega),Int.zero_add,Int.zero_add]
 have h00:aFu[j]? =some ⟨0,0⟩:=by
  simp only[aFu,List.getElem?_replicate,hj,if_true]
 have hlen:=aG7 (p:=p) (f:=f)
 have:=key (JL p f) aFu ⟨0,0⟩ h00 (Int.le_refl _) (Int.le_refl _) (by simp only;omega) (by simp only;omega)
 rw[aC8,this]
 have e:∀g:Int→Int,((JL p f).map g).sum=aF8 (fun i=>if(aBw p i).fl=f then g i else 0) 4:=fun g=>by
  rw[JL,aIB g (aDV _ _),aF9]
 rw[e,e]
 simp only[Int.zero_add,aIA,aIz]
 congr 2
 ·refine aE3 fun i _=>?_
  simp only[loG,dayOf,aCF,Int.toNat_natCast,aF6]
  by_cases h1:(aBw p i).fl=f <;>simp[h1]
 ·refine aE3 fun i _=>?_
  simp only[hiG,dayOf,aCF,Int.toNat_natCast,aF6]
  by_cases h1:(aBw p i).fl=f <;>simp[h1]

/-! The first day that is too full -/
end Go.aS

/- Numbers out of a hat. Conditions: none; over the given program. -/
namespace Go.aS
set_option maxRecDepth 100000
set_option maxHeartbeats 4000000
abbrev wF(lv:Value)(k:Nat)(s:Int):Obj:=.cells #[lv,I k,.int .u64 s] adi (0,0)

theorem ab8(n:Int):0≤IntKind.u64.wrap n:=by
 show 0≤n % (18446744073709551616:Int)
 omega
theorem YL(a b:Int):0≤bits .xor IntKind.u64 a b:=by
 unfold bits
 exact ab8 _
theorem aaB(main:Side)(h:Hp)(nums:List Int)(lv:Value)(b k:Nat)(s:Int)(hl:Sl h fH lv nums)(hk:k<4000000000):dV prog main zM #[.pointer (some ⟨b,0,none⟩)] h [(b,wF lv k s)] (fun v A=>∃x s',v= .int .u64 x∧0≤x∧Sb [(b,wF lv (k+1) s')] A):=by
 obtain⟨a,cap,rfl⟩:=hl.dA
 refine dV.aG Hz rfl (by show 1≤75;decide) [(0,.pointer (some ⟨b,0,none⟩))] ⟨rfl,trivial⟩ ?_
 refine W.seq<|W.region rfl<|agb rfl rfl rfl<|pq<|W.seq<|W.region rfl<|qm rfl rfl rfl ?_
 refine ag4 rfl ?_
 refine agY rfl ?_
 refine agX rfl ?_
 refine agW (FC rfl rfl) rfl ?_
 refine ag1 rfl ?_
 refine agb rfl rfl rfl<|pq<|W.seq<|W.seq ?_
 refine W.rE (n:=10) rfl ?_
 refine xq 0 (aN rfl rfl) rfl ?_
 first | refine xq 1 (bg rfl rfl) rfl ?_ | refine xq 1 (aT rfl rfl) rfl ?_
 refine xq 2 (ay rfl rfl) rfl ?_
 refine xq 3 (iQ rfl rfl) rfl ?_
 refine xq 4 (aN rfl rfl) rfl ?_
 first | refine xq 5 (bg rfl rfl) rfl ?_ | refine xq 5 (aT rfl rfl) rfl ?_
 refine xq 6 (ay rfl rfl) rfl ?_
 refine xq 7 (iQ rfl rfl) rfl ?_
 refine xq 8 (dM rfl rfl) rfl ?_
 refine xq 9 (fO rfl rfl rfl) rfl ?_
 refine az ?_
 refine aA ?_
 refine W.bC rfl (fun c20=>?_) (fun c20=>?_)
 ·obtain⟨p,hp,-⟩:=has (show k<nums.length by omega)
  obtain⟨b1,off,c,E,fz,rfl,hb,hx,hy,hz⟩:=hl.at hp
  have hz0:=hz 0 (by decide)
  have hpa:c[off+k*1]? =some (I p):=by simpa[fH]using hz0
  refine W.rE (n:=15) rfl ?_
  refine xq 0 (aN rfl rfl) rfl ?_
  refine xq 1 (aN rfl rfl) rfl ?_
  first | refine xq 2 (bg rfl rfl) rfl ?_ | refine xq 2 (aT rfl rfl) rfl ?_
  refine xq 3 (ay rfl rfl) rfl ?_
  refine xq 4 (iQ rfl rfl) rfl ?_
  refine xq 5 (aN rfl rfl) rfl ?_
  first | refine xq 6 (bg rfl rfl) rfl ?_ | refine xq 6 (aT rfl rfl) rfl ?_
  refine xq 7 (ay rfl rfl) rfl ?_
  refine xq 8 (iQ rfl rfl) rfl ?_
  first | refine xq 9 (G_ rfl rfl rfl) rfl ?_ | refine xq 9 (o_ rfl rfl rfl) rfl ?_
  refine xq 10 (iQ rfl rfl) rfl ?_
  refine xq 11 (FC rfl rfl) rfl ?_
  first | refine xq 12 (aaC rfl rfl rfl) rfl ?_ | refine xq 12 (Fz rfl rfl rfl) rfl ?_
  refine xq 13 (Gx rfl rfl rfl) rfl ?_
  refine xq 14 (jS rfl rfl) rfl ?_
  refine az ?_
  refine aA<|W.seq<|W.region rfl<|qm rfl rfl rfl ?_
  refine ag4 rfl ?_
  refine agY rfl ?_
  refine agX rfl ?_
  refine ag1 rfl ?_
  refine ag4 rfl ?_
  refine agY rfl ?_
  refine Ops.yG ?_
  refine pq<|W.seq<|W.region rfl<|qm rfl rfl rfl<|qm rfl rfl rfl ?_
  refine ag4 rfl ?_
  refine agY rfl ?_
  refine agX rfl ?_
  refine qm rfl rfl rfl ?_
  refine agW (Gx rfl rfl rfl) rfl ?_
  first | refine agW (aaC rfl rfl rfl) rfl ?_ | refine agW (Fz rfl rfl rfl) rfl ?_
  refine ag4 rfl ?_
  refine agY rfl ?_
  refine Ops.yG ?_
  refine pq<|W.seq ?_
  refine W.rE (n:=14) rfl ?_
  refine xq 0 (aN rfl rfl) rfl ?_
  refine xq 1 (aN rfl rfl) rfl ?_
  first | refine xq 2 (bg rfl rfl) rfl ?_ | refine xq 2 (aT rfl rfl) rfl ?_
  refine xq 3 (ay rfl rfl) rfl ?_
  refine xq 4 (iQ rfl rfl) rfl ?_
  refine xq 5 (aN rfl rfl) rfl ?_
  first | refine xq 6 (bg rfl rfl) rfl ?_ | refine xq 6 (aT rfl rfl) rfl ?_
  refine xq 7 (ay rfl rfl) rfl ?_
  refine xq 8 (iQ rfl rfl) rfl ?_
  refine xq 9 (Gw rfl rfl rfl (by omega)) rfl ?_
  refine xq 10 (Gx rfl rfl rfl) rfl ?_
  first | refine xq 11 (bg rfl rfl) rfl ?_ | refine xq 11 (aT rfl rfl) rfl ?_
  refine xq 12 (ay rfl rfl) rfl ?_
  refine ae (i:=13) rfl an rfl rfl (eS rfl rfl rfl ?_)
  refine⟨.inl (by kernel_rfl),?_⟩
  refine az ?_
  refine aA<|W.seq<|W.region rfl<|qm rfl rfl rfl ?_
  refine ag4 rfl ?_
  refine agY rfl ?_
  refine agX rfl ?_
  first | refine agW (aaC rfl rfl rfl) rfl ?_ | refine agW (Fz rfl rfl rfl) rfl ?_
  refine agb rfl rfl rfl<|pq<|W.seq<|W.region rfl<|qm rfl rfl rfl<|qm rfl rfl rfl ?_
  refine agW (Gw rfl rfl rfl (by omega)) rfl ?_
  refine agW (Gx rfl rfl rfl) rfl ?_
  refine agW (Gw rfl rfl rfl (by omega)) rfl ?_
  refine agb rfl rfl rfl<|pq<|W.ret ?_
  refine mg ⟨_,_,rfl,?_,.refl⟩
  exact Int.fdiv_nonneg (YL _ _) (by decide)
 ·refine W.skip<|aA<|W.seq<|W.region rfl<|qm rfl rfl rfl ?_
  refine ag4 rfl ?_
  refine agY rfl ?_
  refine agX rfl ?_
  refine ag1 rfl ?_
  refine ag4 rfl ?_
  refine agY rfl ?_
  refine Ops.yG ?_
  refine pq<|W.seq<|W.region rfl<|qm rfl rfl rfl<|qm rfl rfl rfl ?_
  refine ag4 rfl ?_
  refine agY rfl ?_
  refine agX rfl ?_
  refine qm rfl rfl rfl ?_
  refine agW (Gx rfl rfl rfl) rfl ?_
  first | refine agW (aaC rfl rfl rfl) rfl ?_ | refine agW (Fz rfl rfl rfl) rfl ?_
  refine ag4 rfl ?_
  refine agY rfl ?_
  refine Ops.yG ?_
  refine pq<|W.seq ?_
  refine W.rE (n:=14) rfl ?_
  refine xq 0 (aN rfl rfl) rfl ?_
  refine xq 1 (aN rfl rfl) rfl ?_
  first | refine xq 2 (bg rfl rfl) rfl ?_ | refine xq 2 (aT rfl rfl) rfl ?_
  refine xq 3 (ay rfl rfl) rfl ?_
  refine xq 4 (iQ rfl rfl) rfl ?_
  refine xq 5 (aN rfl rfl) rfl ?_
  first | refine xq 6 (bg rfl rfl) rfl ?_ | refine xq 6 (aT rfl rfl) rfl ?_
  refine xq 7 (ay rfl rfl) rfl ?_
  refine xq 8 (iQ rfl rfl) rfl ?_
  refine xq 9 (Gw rfl rfl rfl (by omega)) rfl ?_
  refine xq 10 (Gx rfl rfl rfl) rfl ?_
  first | refine xq 11 (bg rfl rfl) rfl ?_ | refine xq 11 (aT rfl rfl) rfl ?_
  refine xq 12 (ay rfl rfl) rfl ?_
  refine ae (i:=13) rfl an rfl rfl (eS rfl rfl rfl ?_)
  refine⟨.inl (by kernel_rfl),?_⟩
  refine az ?_
  refine aA<|W.seq<|W.region rfl<|qm rfl rfl rfl ?_
  refine ag4 rfl ?_
  refine agY rfl ?_
  refine agX rfl ?_
  first | refine agW (aaC rfl rfl rfl) rfl ?_ | refine agW (Fz rfl rfl rfl) rfl ?_
  refine agb rfl rfl rfl<|pq<|W.seq<|W.region rfl<|qm rfl rfl rfl<|qm rfl rfl rfl ?_
  refine agW (Gw rfl rfl rfl (by omega)) rfl ?_
  refine agW (Gx rfl rfl rfl) rfl ?_
  refine agW (Gw rfl rfl rfl (by omega)) rfl ?_
  refine agb rfl rfl rfl<|pq<|W.ret ?_
  refine mg ⟨_,_,rfl,?_,.refl⟩
  exact Int.fdiv_nonneg (YL _ _) (by decide)
end Go.aS

/- Floors, strikes and plants out of a hat. Conditions: none; over the given program. -/
namespace Go.aS
set_option maxRecDepth 100000
set_option maxHeartbeats 4000000
theorem ab9{x n:Int}(hx:0≤x)(h1:1≤n)(h2:n≤1000000):∃r,IntKind.i64.wrap (x.tmod (IntKind.u64.wrap (IntKind.u64.wrap n+1)))=r∧0≤r∧r≤n:=by
 have e1:IntKind.u64.wrap n=n:=by show n % (18446744073709551616:Int)=n;omega
 have e2:IntKind.u64.wrap (n+1)=n+1:=by show(n+1) % (18446744073709551616:Int)=n+1;omega
 have e3:x.tmod (n+1)=x % (n+1):=Int.tmod_eq_emod_of_nonneg hx
 have h3:=Int.emod_nonneg x (show n+1≠0 by omega)
 have h4:=Int.emod_lt_of_pos x (show 0<n+1 by omega)
 rw[e1,e2,e3]
 rw[nC (by omega) (by omega)]
 exact⟨_,rfl,h3,by omega⟩

theorem adY{n:Int}(h1:1≤n)(h2:n≤1000000):IntKind.u64.wrap (IntKind.u64.wrap n+1)≠0:=by
 have e1:IntKind.u64.wrap n=n:=by show n % (18446744073709551616:Int)=n;omega
 have e2:IntKind.u64.wrap (n+1)=n+1:=by show(n+1) % (18446744073709551616:Int)=n+1;omega
 rw[e1,e2];omega
theorem UC(main:Side)(h:Hp)(nums:List Int)(lv:Value)(b k:Nat)(s n:Int)(hl:Sl h fH lv nums)(hk:k<4000000000)(hn: -1000000≤n∧n≤1000000):dV prog main Ee #[.pointer (some ⟨b,0,none⟩),I n] h [(b,wF lv k s)] (fun v A=>∃r s',v=I r∧(0≤r∧(r≤n∨r=0))∧Sb [(b,wF lv (k+1) s')] A):=by
 refine dV.aG Ky rfl (by show 2≤16;decide) [(0,.pointer (some ⟨b,0,none⟩)),(1,I n)] ⟨rfl,rfl,trivial⟩ ?_
 refine W.seq<|W.region rfl<|agb rfl rfl rfl<|pq<|W.seq<|W.region rfl<|qm rfl rfl rfl ?_
 refine cg (A:=[(b,_)]) .head (fun h' hE hL=>aaB _ h' nums lv b k s (hl.ext hE) hk) (fun v A' hv=>?_)
 obtain⟨x,s',rfl,hx,hsb⟩:=hv
 refine Ops.sb (hsb.app .refl) ?_
 refine agb rfl rfl rfl<|pq<|W.seq<|W.seq<|W.region rfl<|qm rfl rfl rfl ?_
 refine agW (fO rfl rfl rfl) rfl ?_
 refine pq ?_
 refine W.bC rfl (fun c9=>?_) (fun c9=>?_)
 ·refine W.seq<|W.region rfl<|agb rfl rfl rfl<|pq<|W.ret<|aY ?_
  exact mg (vs:=[_]) ⟨0,s',rfl,⟨Int.le_refl _,.inr rfl⟩,.refl⟩
 ·refine W.skip<|aA<|W.seq<|W.region rfl<|qm rfl rfl rfl<|qm rfl rfl rfl ?_
  refine agW (FC rfl rfl) rfl ?_
  refine ag1 rfl ?_
  refine agW (Wu rfl rfl rfl (adY (by omega) hn.2)) rfl ?_
  refine agW (FC rfl rfl) rfl ?_
  refine agb rfl rfl rfl<|pq<|W.ret ?_
  obtain⟨r,hr,h0,h1⟩:=ab9 (n:=n) hx (by omega) hn.2
  exact mg (vs:=[_]) ⟨r,s',congrArg (Value.int .i64) hr,⟨h0,.inl h1⟩,.refl⟩

theorem UD(main:Side)(h:Hp)(nums:List Int)(lv:Value)(b k:Nat)(s lo hi:Int)(hl:Sl h fH lv nums)(hk:k<4000000000)(hn: -100000≤lo∧lo≤100000∧-100000≤hi∧hi≤100000):dV prog main zL #[.pointer (some ⟨b,0,none⟩),I lo,I hi] h [(b,wF lv k s)] (fun v A=>∃r s',v=I r∧(lo≤r∧(r≤hi∨r=lo))∧Sb [(b,wF lv (k+1) s')] A):=by
 refine dV.aG aHq rfl (by show 3≤14;decide) [(0,.pointer (some ⟨b,0,none⟩)),(1,I lo),(2,I hi)] ⟨rfl,rfl,rfl,trivial⟩ ?_
 refine W.seq<|W.region rfl<|agb rfl rfl rfl<|pq<|W.seq<|W.region rfl<|qm rfl rfl rfl<|qm rfl rfl rfl<|qm rfl rfl rfl ?_
 refine qm rfl rfl rfl ?_
 refine ag5 rfl ?_
 refine cg (A:=[(b,_)]) .head (fun h' hE hL=>UC _ h' nums lv b k s (hi-lo) (hl.ext hE) hk (by omega)) (fun v A' hv=>?_)
 obtain⟨r,s',rfl,hr,hsb⟩:=hv
 refine Ops.sb (hsb.app .refl) ?_
 refine ag1 rfl ?_
 refine agb rfl rfl rfl<|pq<|W.ret ?_
 exact mg (vs:=[_]) ⟨lo+r,s',rfl,⟨by omega,by omega⟩,.refl⟩

theorem VP(main:Side)(h:Hp)(nums:List Int)(lv:Value)(b k:Nat)(s n:Int)(hl:Sl h fH lv nums)(hk:k<4000000000)(hn: -100000≤n∧n≤100000):dV prog main vM #[.pointer (some ⟨b,0,none⟩),I n] h [(b,wF lv k s)] (fun v A=>∃r s',v= .bool r∧Sb [(b,wF lv (k+1) s')] A):=by
 refine dV.aG En rfl (by show 2≤10;decide) [(0,.pointer (some ⟨b,0,none⟩)),(1,I n)] ⟨rfl,rfl,trivial⟩ ?_
 refine W.seq<|W.region rfl<|agb rfl rfl rfl<|pq<|W.seq<|W.region rfl<|qm rfl rfl rfl<|qm rfl rfl rfl ?_
 refine ag5 rfl ?_
 refine cg (A:=[(b,_)]) .head (fun h' hE hL=>UC _ h' nums lv b k s (n-1) (hl.ext hE) hk (by omega)) (fun v A' hv=>?_)
 obtain⟨r,s',rfl,hr,hsb⟩:=hv
 refine Ops.sb (hsb.app .refl) ?_
 refine agW (nD rfl rfl rfl) rfl ?_
 refine agb rfl rfl rfl<|pq<|W.ret ?_
 exact mg (vs:=[_]) ⟨_,s',rfl,.refl⟩

theorem YM(main:Side)(h:Hp)(nums:List Int)(lv:Value)(b k:Nat)(s:Int)(l:List Int)(vl:Value)(hl:Sl h fH lv nums)(hs:Sl h fH vl l)(hk:k<4000000000)(h1:1≤l.length)(h2:l.length≤1000):dV prog main Ce #[.pointer (some ⟨b,0,none⟩),vl] h [(b,wF lv k s)] (fun v A=>∃r s',v=I r∧r∈l∧Sb [(b,wF lv (k+1) s')] A):=by
 obtain⟨a,cap,rfl⟩:=hs.dA
 refine dV.aG JD rfl (by show 2≤13;decide) [(0,.pointer (some ⟨b,0,none⟩)),(1,.slice a l.length cap)] ⟨rfl,rfl,trivial⟩ ?_
 refine W.seq<|W.region rfl<|agb rfl rfl rfl<|pq<|W.seq<|W.region rfl<|qm rfl rfl rfl<|qm rfl rfl rfl<|qm rfl rfl rfl ?_
 refine agW (dM rfl rfl) rfl ?_
 refine ag5 rfl ?_
 refine cg (A:=[(b,_)]) .head (fun h' hE hL=>UC _ h' nums lv b k s ((l.length:Int)-1) (hl.ext hE) hk (by omega)) (fun v A' hv=>?_)
 obtain⟨r,s',rfl,hr,hsb⟩:=hv
 refine Ops.sb (hsb.app .refl) ?_
 obtain⟨rn,rfl⟩:∃rn:Nat,r=rn:=⟨r.toNat,by omega⟩
 obtain⟨p,hp,-⟩:=has (show rn<l.length by omega)
 obtain⟨b1,off,c,E,fz,rfl,hb,hx,hy,hz⟩:=hs.at hp
 have hz0:=hz 0 (by decide)
 have hpa:c[off+rn*1]? =some (I p):=by simpa[fH]using hz0
 refine ag3 rfl ?_
 refine agX rfl ?_
 refine agb rfl rfl rfl<|pq<|W.ret ?_
 exact mg (vs:=[_]) ⟨p,s',rfl,List.mem_of_getElem? hp,.refl⟩

theorem VQ(main:Side)(h:Hp)(nums:List Int)(lv:Value)(hl:Sl h fH lv nums):dV prog main Ec #[lv] h [] (fun v A=>∃b s,v= .pointer (some ⟨b,0,none⟩)∧A=[(b,wF lv 0 s)]):=by
 obtain⟨a,cap,rfl⟩:=hl.dA
 refine dV.aG Kv rfl (by show 1≤6;decide) [(0,.slice a nums.length cap)] ⟨rfl,trivial⟩ ?_
 refine W.seq<|W.region rfl<|agb rfl rfl rfl<|pq<|W.seq<|W.region rfl<|qm rfl rfl rfl ?_
 refine agW (eH rfl rfl rfl) rfl ?_
 refine Ops.box (fun mZ=>?_)
 refine agb rfl rfl rfl<|pq<|W.ret ?_
 exact mg (vs:=[_]) ⟨_,_,rfl,rfl⟩
end Go.aS

/- Floors out of a hat. Conditions: none; over the given program. -/
namespace Go.aS
set_option maxRecDepth 100000
set_option maxHeartbeats 4000000
theorem pa(c:Array Value)(l:List Int)(h:c=(flat fH l).toArray:=by rfl):Part c 0 (flat fH l):=by
 subst h;exact Part.all _
theorem aHy{f:Fl}(h1:1≤f.pl∧f.pl≤9)(h2:1≤f.lo∧f.lo≤6)(h3:f.lo≤f.hi∧f.hi≤6)(h4:0≤f.co∧f.co≤9):aAP f=0:=by
 unfold aAP
 rw[if_neg (by unfold outs;omega),if_neg (by omega),if_neg (by unfold outs;omega)]
theorem aF_(main:Side)(h:Hp)(nums:List Int)(lv:Value)(b k:Nat)(s:Int)(hl:Sl h fH lv nums)(hk:k<3000000000):dV prog main aEH #[.pointer (some ⟨b,0,none⟩)] h [(b,wF lv k s)] (fun v A=>∃f s',v=Fl.val f∧aAP f=0∧Sb [(b,wF lv (k+6) s')] A):=by
 refine dV.aG aFQ rfl (by show 1≤26;decide) [(0,.pointer (some ⟨b,0,none⟩))] ⟨rfl,trivial⟩ ?_
 refine W.seq<|W.region rfl ?_
 refine Ops.new (fun yR=>?_)
 refine pq<|W.seq<|W.region rfl<|qm rfl rfl rfl<|qm rfl rfl rfl ?_
 refine cg (A:=[(b,_)]) (.tail .head) (fun h' hE hL=>UD _ h' nums lv b k s 1 6 (hl.ext hE) (by omega) (by omega)) (fun v A' hv=>?_)
 obtain⟨r,s1,rfl,hr,hsb⟩:=hv
 refine Ops.sb (.cons (hsb.app .refl)) ?_
 refine Ops.NK (cs:= #[I 1,I 2,I 2,I 3,I r]) (fun Vo=>?_) rfl
 refine cg (A:=[(b,_)]) (.tail (.tail .head)) (fun h' hE hL=>YM _ h' nums lv b (k+1) s1 [1,2,2,3,r] _ (hl.ext hE) (Sl.mk (hL Vo _ (.head _)) rfl (pa _ _)) (by omega) (by simp) (by simp)) (fun v A' hv=>?_)
 obtain⟨lo,s2,rfl,hlo,hsb⟩:=hv
 refine Ops.sb (F':=[(yR,_),(b,_)]) (.skip rfl (.cons (hsb.app .refl))) ?_
 refine agb rfl rfl rfl<|pq<|W.seq<|W.region rfl<|qm rfl rfl rfl<|qm rfl rfl rfl ?_
 refine cg (A:=[(b,_)]) (.tail .head) (fun h' hE hL=>UD _ h' nums lv b (k+2) s2 1 9 (hl.ext hE) (by omega) (by omega)) (fun v A' hv=>?_)
 obtain⟨r2,s3,rfl,hr2,hsb⟩:=hv
 refine Ops.sb (.cons (hsb.app .refl)) ?_
 refine Ops.NK (cs:= #[I 2,I 3,I 4,I 5,I r2]) (fun Yf=>?_) rfl
 refine cg (A:=[(b,_)]) (.tail (.tail .head)) (fun h' hE hL=>YM _ h' nums lv b (k+3) s3 [2,3,4,5,r2] _ (hl.ext hE) (Sl.mk (hL Yf _ (.head _)) rfl (pa _ _)) (by omega) (by simp) (by simp)) (fun v A' hv=>?_)
 obtain⟨pl,s4,rfl,hpl,hsb⟩:=hv
 refine Ops.sb (F':=[(yR,_),(b,_)]) (.skip rfl (.cons (hsb.app .refl))) ?_
 refine qm rfl rfl rfl<|qm rfl rfl rfl<|qm rfl rfl rfl ?_
 refine Ops.NK (cs:= #[I 0,I 1,I 1,I 2]) (fun afC=>?_) rfl
 refine cg (A:=[(b,_)]) (.tail (.tail .head)) (fun h' hE hL=>YM _ h' nums lv b (k+4) s4 [0,1,1,2] _ (hl.ext hE) (Sl.mk (hL afC _ (.head _)) rfl (pa _ _)) (by omega) (by simp) (by simp)) (fun v A' hv=>?_)
 obtain⟨d,s5,rfl,hd,hsb⟩:=hv
 refine Ops.sb (F':=[(yR,_),(b,_)]) (.skip rfl (.cons (hsb.app .refl))) ?_
 have aLk:1≤lo∧lo≤6:=by simp at hlo;omega
 have hd2:0≤d∧d≤2:=by simp at hd;omega
 obtain⟨hi,hhi⟩:∃hi,min 6 (lo+d)=hi:=⟨_,rfl⟩
 refine ag1 rfl ?_
 refine agW ((Tm rfl rfl rfl).eq (u:=I hi) (congrArg I hhi)) rfl ?_
 refine agW (eH (cs:= #[I lo,I hi]) rfl rfl rfl) rfl ?_
 refine qm rfl rfl rfl ?_
 refine Ops.NK (cs:= #[I 0,I 1,I 2,I 3,I 9]) (fun alR=>?_) rfl
 refine cg (A:=[(b,_)]) (.tail (.tail .head)) (fun h' hE hL=>YM _ h' nums lv b (k+5) s5 [0,1,2,3,9] _ (hl.ext hE) (Sl.mk (hL alR _ (.head _)) rfl (pa _ _)) (by omega) (by simp) (by simp)) (fun v A' hv=>?_)
 obtain⟨co,s6,rfl,hco,hsb⟩:=hv
 refine Ops.sb (F':=[(yR,_),(b,_)]) (.skip rfl (.cons (hsb.app .refl))) ?_
 refine agW (eH (cs:= #[I pl,I lo,I hi,I co]) rfl rfl rfl) rfl ?_
 first | refine Ops.jP ?_ | refine Ops.nY ?_
 refine pq<|W.ret ?_
 refine QJ (hv:=D_ zJ) ⟨⟨pl,lo,hi,co⟩,s6,rfl,?_,.skip rfl .refl⟩
 simp at hpl hco
 exact aHy (by simp only;omega) (by simp only;omega) (by simp only;omega) (by simp only;omega)
end Go.aS

/- What stands on a floor on a day; when cones are done. Conditions: none; over the given program. -/
namespace Go.aS
set_option maxRecDepth 100000
set_option maxHeartbeats 4000000
set_option maxHeartbeats 4000000
theorem aJF{l:List Be}{i:Nat}:aBw (aBZ l) i=aBw l i:=by
 simp only[aBw,aBZ,List.getD]
 rcases Nat.lt_or_ge i l.length with h | h
 ·rw[List.getElem?_append_left h]
 ·rw[List.getElem?_append_right h,List.getElem?_eq_none (l:=l) h]
  cases hx:(List.replicate (4-l.length) aCB)[i-l.length]? with
  | none=>rfl
  | some b=>rw[List.eq_of_mem_replicate (List.mem_of_getElem? hx)];rfl

theorem aIb{fs:List Fl}{f:Int}(h0:0≤f)(h1:f<fs.length):fs[f.toNat]? =some (aBY fs f):=by
 obtain⟨x,hx,-⟩:=has (show f.toNat<fs.length by omega)
 simp[aBY,List.getD,hx]

theorem aKE{c:Array Value}{o:Nat}{u v w y:Value}(h:c.extract o (o+4)= #[u,v,w,y]):c.extract (o+1) (o+1+2)= #[v,w]:=by
 have e:(c.extract o (o+4)).extract 1 3=c.extract (o+1) (o+1+2):=by
  rw[Array.extract_extract,show min (o+3) (o+4)=o+1+2 by omega]
 rw[←e,h];rfl

def Sp.val(s:Sp):Value:=.agg #[I s.lo,I s.hi]
def aDB(fs:List Fl)(ss:List St)(l:List Be)(f d:Int):Sp×Int:=
 if aDv fs ss l [f]≠0 then(⟨0,0⟩,aDv fs ss l [f])else if outs d 0 21 then(⟨0,0⟩,1)else((aC8 fs ss (aBZ l) f).getD d.toNat ⟨0,0⟩,0)
theorem aGG(main:Side)(h:Hp)(fs:List Fl)(ss:List St)(l:List Be)(f d:Int)(vf vs vl:Value)(hf:Sl h Fl.row vf fs)(hs:Sl h St.row vs ss)(hl:Sl h Be.row vl l):Pu prog main aD7 #[.agg #[vf,vs],vl,I f,I d] h (.tuple #[(aDB fs ss l f d).1.val,I (aDB fs ss l f d).2]):=by
 obtain⟨a,cap,rfl⟩:=hf.dA
 obtain⟨a',cap',rfl⟩:=hs.dA
 obtain⟨a2,cap2,rfl⟩:=hl.dA
 obtain⟨va,vb,pp,hsh,h1a,h1b,hpp,hok⟩:=aF5 (.slice a fs.length cap) (.slice a' ss.length cap') fs ss l [f] rfl rfl
 have hsz:(flat Be.row pp).toArray.size=8:=by simp[jT,hpp]
 have hon:ones (flat Be.row pp).toArray.toList=true:=aGE
 have aKF:ones (#[va,vb]:Array Value).toList=true:=by simp[ones,h1a,h1b]
 refine dV.aG aFD rfl (by show 4≤35;decide) [(0,.agg #[.slice a fs.length cap,.slice a' ss.length cap']),(1,.slice a2 l.length cap2),(2,I f),(3,I d)] ⟨rfl,rfl,rfl,rfl,trivial⟩ ?_
 refine W.seq<|W.region rfl ?_
 refine Ops.box (fun wC=>?_)
 refine Ops.new (fun yD=>?_)
 refine agb rfl rfl rfl<|pq<|W.seq<|W.region rfl ?_
 first | refine ag2 rfl ?_ | refine agW (ady rfl rfl) rfl ?_
 refine qm rfl rfl rfl<|qm rfl rfl rfl ?_
 refine Ops.NK (cs:= #[I f]) (fun afC=>?_) rfl
 refine cp (u:=.tuple #[.agg #[va,vb],adu pp,I (aDv fs ss l [f])]) (fun h' hE hL=>by rw[←hsh];exact ald _ h' fs ss l [f] _ _ _ (.slice (some ⟨afC,0,none⟩) 1 1) (hf.ext hE) (hs.ext hE) (hl.ext hE) (Sl.mk (hL afC _ (.head _)) rfl (Part.all [I f])) (by simp)) ?_
 refine qm rfl rfl rfl<|oq (bD rfl rfl rfl) rfl wn rfl rfl<|oq (bD rfl rfl rfl) rfl wn rfl rfl<|oq (bD rfl rfl rfl) rfl wn rfl rfl ?_
 refine Ops.new (fun Oj=>?_)
 refine Ops.new (fun KY=>?_)
 first | refine Ops.jP ?_ | refine Ops.nY ?_
 first | refine Ops.jP ?_ | refine Ops.nY ?_
 refine agb rfl rfl rfl<|pq<|W.seq<|W.seq<|W.region rfl<|qm rfl rfl rfl ?_
 refine agW (nG rfl rfl rfl) rfl ?_
 refine pq ?_
 refine W.bC rfl (fun c23=>?_) (fun c23=>?_)
 ·refine W.seq<|W.region rfl ?_
  refine agW (eH rfl rfl rfl) rfl ?_
  refine qm rfl rfl rfl ?_
  first | refine Ops.jP ?_ | refine Ops.nY ?_
  refine agb rfl rfl rfl<|pq<|W.ret<|aY ?_
  refine QJ (hv:=D_ (RN zJ)) ⟨?_,by repeat(first | exact Shut.nil | refine Shut.cons rfl ?_)⟩
  simp only[aDB];rw[if_pos c23];rfl
 ·have h0:aDv fs ss l [f]=0:=by simpa using c23
  obtain⟨rfl,rfl,rfl⟩:=hok h0
  obtain⟨hck,hbf⟩:=aIy h0
  obtain⟨hall,hp,hll⟩:=aFK hck
  obtain⟨hf0,hf1⟩:=aKb hbf
  refine W.skip<|aA<|W.seq<|W.seq<|W.region rfl<|qm rfl rfl rfl ?_
  refine cp (fun h' hE hL=>aBd _ h' _ _ _) ?_
  refine pq ?_
  refine W.bC rfl (fun c27=>?_) (fun c27=>?_)
  ·refine W.seq<|W.region rfl ?_
   refine agW (eH rfl rfl rfl) rfl ?_
   first | refine Ops.jP ?_ | refine Ops.nY ?_
   refine agb rfl rfl rfl<|pq<|W.ret<|aY ?_
   refine QJ (hv:=D_ (RN zJ)) ⟨?_,by repeat(first | exact Shut.nil | refine Shut.cons rfl ?_)⟩
   simp only[aDB];rw[if_neg c23,if_pos c27];rfl
  ·have hd:0≤d∧d<22:=by simp only[outs,not_or]at c27;omega
   obtain⟨D,hD⟩:∃D,aC8 fs ss (aBZ l) f=D:=⟨_,rfl⟩
   have hDl:D.length=22:=by rw[←hD];exact aG8
   obtain⟨s,hsk,-⟩:=has (show d.toNat<D.length by omega)
   have hex:(flat Sp.row D).toArray.extract (d.toNat*2) (d.toNat*2+2)= #[I s.lo,I s.hi]:=aI9 hsk
   refine W.skip<|aA<|W.seq<|W.region rfl ?_
   first | refine ag2 rfl ?_ | refine agW (ady rfl rfl) rfl ?_
   first | refine ag2 rfl ?_ | refine agW (ady rfl rfl) rfl ?_
   refine qm rfl rfl rfl ?_
   refine cp (u:=aJv D) (fun h' hE hL=>by rw[←hD];exact aIa _ h' fs ss (aBZ l) f _ _ (hf.ext hE) (hs.ext hE) hall hp hf0 hf1) ?_
   refine qm rfl rfl rfl ?_
   first | refine agW (Ti rfl rfl rfl (by omega) (by omega) (by first | assumption | rfl)) rfl ?_ | refine agW (Ws rfl rfl rfl (by omega) (by omega) (by first | assumption | rfl)) rfl ?_
   first | refine Ops.jP ?_ | refine Ops.nY ?_
   refine agb rfl rfl rfl<|pq<|W.ret ?_
   refine QJ (hv:=D_ (RN zJ)) ⟨?_,by repeat(first | exact Shut.nil | refine Shut.cons rfl ?_)⟩
   simp only[aDB];rw[if_neg c23,if_neg c27,hD,List.getD,hsk];rfl
def aDX(fs:List Fl)(ss:List St)(l:List Be)(i:Int):Sp×Int:=
 if aDv fs ss l []≠0 then(⟨0,0⟩,aDv fs ss l [])else if outs i 0 (ss.length-1)then(⟨0,0⟩,3)else if(aBw l i.toNat).fl<0 then(⟨0,0⟩,8)
 else(⟨(aBw l i.toNat).day+(aBY fs (aBw l i.toNat).fl).lo,(aBw l i.toNat).day+(aBY fs (aBw l i.toNat).fl).hi⟩,0)
theorem aHb(main:Side)(h:Hp)(fs:List Fl)(ss:List St)(l:List Be)(i:Int)(vf vs vl:Value)(hf:Sl h Fl.row vf fs)(hs:Sl h St.row vs ss)(hl:Sl h Be.row vl l):Pu prog main aEI #[.agg #[vf,vs],vl,I i] h (.tuple #[(aDX fs ss l i).1.val,I (aDX fs ss l i).2]):=by
 obtain⟨a,cap,rfl⟩:=hf.dA
 obtain⟨a',cap',rfl⟩:=hs.dA
 obtain⟨a2,cap2,rfl⟩:=hl.dA
 obtain⟨va,vb,pp,hsh,h1a,h1b,hpp,hok⟩:=aF5 (.slice a fs.length cap) (.slice a' ss.length cap') fs ss l [] rfl rfl
 have hsz:(flat Be.row pp).toArray.size=8:=by simp[jT,hpp]
 have hon:ones (flat Be.row pp).toArray.toList=true:=aGE
 have aKF:ones (#[va,vb]:Array Value).toList=true:=by simp[ones,h1a,h1b]
 refine dV.aG aFR rfl (by show 3≤57;decide) [(0,.agg #[.slice a fs.length cap,.slice a' ss.length cap']),(1,.slice a2 l.length cap2),(2,I i)] ⟨rfl,rfl,rfl,trivial⟩ ?_
 refine W.seq<|W.region rfl ?_
 refine Ops.box (fun uU=>?_)
 refine Ops.new (fun yC=>?_)
 refine agb rfl rfl rfl<|pq<|W.seq<|W.region rfl ?_
 first | refine ag2 rfl ?_ | refine agW (ady rfl rfl) rfl ?_
 refine qm rfl rfl rfl ?_
 refine cp (u:=.tuple #[.agg #[va,vb],adu pp,I (aDv fs ss l [])]) (fun h' hE hL=>by rw[←hsh];exact ald _ h' fs ss l [] _ _ _ (.slice none 0 0) (hf.ext hE) (hs.ext hE) (hl.ext hE) .nil (by simp)) ?_
 refine qm rfl rfl rfl<|oq (bD rfl rfl rfl) rfl wn rfl rfl<|oq (bD rfl rfl rfl) rfl wn rfl rfl<|oq (bD rfl rfl rfl) rfl wn rfl rfl ?_
 refine Ops.new (fun yD=>?_)
 refine Ops.new (fun Uw=>?_)
 first | refine Ops.jP ?_ | refine Ops.nY ?_
 first | refine Ops.jP ?_ | refine Ops.nY ?_
 refine agb rfl rfl rfl<|pq<|W.seq<|W.seq<|W.region rfl<|qm rfl rfl rfl ?_
 refine agW (nG rfl rfl rfl) rfl ?_
 refine pq ?_
 refine W.bC rfl (fun c21=>?_) (fun c21=>?_)
 ·refine W.seq<|W.region rfl ?_
  refine agW (eH (parts:=[]) (cs:= #[I 0,I 0]) rfl rfl rfl) rfl ?_
  refine qm rfl rfl rfl ?_
  first | refine Ops.jP ?_ | refine Ops.nY ?_
  refine agb rfl rfl rfl<|pq<|W.ret<|aY ?_
  refine QJ (hv:=D_ (RN zJ)) ⟨?_,by repeat(first | exact Shut.nil | refine Shut.cons rfl ?_)⟩
  simp only[aDX];rw[if_pos c21];rfl
 ·have h0:aDv fs ss l []=0:=by simpa using c21
  obtain⟨rfl,rfl,rfl⟩:=hok h0
  obtain⟨hck,-⟩:=aIy h0
  obtain⟨hall,hp,hll⟩:=aFK hck
  have hns:=hall.ns
  refine W.skip<|aA<|W.seq<|W.seq<|W.region rfl<|qm rfl rfl rfl ?_
  refine agY rfl ?_
  refine agX rfl ?_
  refine agW (dM rfl rfl) rfl ?_
  refine ag5 rfl ?_
  refine cp (fun h' hE hL=>aBd _ h' _ _ _) ?_
  refine pq ?_
  refine W.bC rfl (fun c29=>?_) (fun c29=>?_)
  ·refine W.seq<|W.region rfl ?_
   refine agW (eH (parts:=[]) (cs:= #[I 0,I 0]) rfl rfl rfl) rfl ?_
   first | refine Ops.jP ?_ | refine Ops.nY ?_
   refine agb rfl rfl rfl<|pq<|W.ret<|aY ?_
   refine QJ (hv:=D_ (RN zJ)) ⟨?_,by repeat(first | exact Shut.nil | refine Shut.cons rfl ?_)⟩
   simp only[aDX];rw[if_neg c21,if_pos c29];rfl
  ·have hi:0≤i∧i<ss.length:=by simp only[outs,not_or]at c29;omega
   obtain⟨k,rfl⟩:∃k:Nat,i=k:=⟨i.toNat,by omega⟩
   obtain⟨hbk,hb1,hb2,hb3,hb4⟩:=aCq hp.ok (show k<4 by omega)
   have hex:(flat Be.row (aBZ l)).toArray.extract (0+k*2) (0+k*2+2)= #[I (aBw (aBZ l) k).fl,I (aBw (aBZ l) k).day]:=by
    have hP:Part (flat Be.row (aBZ l)).toArray 0 (flat Be.row (aBZ l)):=Part.all _
    have:=(hP.abd hbk).1
    simpa[Be.row]using this
   have aKG:0+k*2+2≤(flat Be.row (aBZ l)).toArray.size:=by omega
   have hb5:=hp.fl _ (List.mem_of_getElem? hbk)
   rw[aJF]at hex hb1 hb2 hb3 hb4 hb5
   refine W.skip<|aA<|W.seq<|W.region rfl<|qm rfl rfl rfl ?_
   first | refine agW (UN rfl rfl rfl) rfl ?_ | refine agW (Qg rfl rfl rfl) rfl ?_
   refine agW (zi (vs:= #[I (aBw l k).fl,I (aBw l k).day]) rfl rfl (hn:=aKG) (hv:=hex)) rfl ?_
   refine Ops.new (fun KY=>?_)
   first | refine Ops.jP ?_ | refine Ops.nY ?_
   refine pq<|W.seq<|W.seq<|W.region rfl ?_
   refine agY rfl ?_
   refine agX rfl ?_
   refine agW (fO rfl rfl rfl) rfl ?_
   refine pq ?_
   refine W.bC rfl (fun c36=>?_) (fun c36=>?_)
   ·refine W.seq<|W.region rfl ?_
    refine agW (eH (parts:=[]) (cs:= #[I 0,I 0]) rfl rfl rfl) rfl ?_
    first | refine Ops.jP ?_ | refine Ops.nY ?_
    refine agb rfl rfl rfl<|pq<|W.ret<|aY ?_
    refine QJ (hv:=D_ (RN zJ)) ⟨?_,by repeat(first | exact Shut.nil | refine Shut.cons rfl ?_)⟩
    simp only[aDX,Int.toNat_natCast];rw[if_neg c21,if_neg c29,if_pos c36];rfl
   ·have hx0:=aIb (fs:=fs) (f:=(aBw l k).fl) (by omega) hb5
    have hfo:=aJw hall (f:=(aBw l k).fl) (by omega) hb5
    generalize hb:aBw l k=b at*
    obtain⟨⟨pl,lo,hi',co⟩,hfa⟩:∃x,aBY fs b.fl=x:=⟨_,rfl⟩
    rw[hfa]at hx0 hfo
    obtain⟨bf,off,c,E,fz,rfl,hbk',hx1,hy1,hz1⟩:=hf.at hx0
    have hx2:=aKE hx1
    clear hx1 hz1
    refine W.skip<|aA<|W.seq<|W.region rfl ?_
    refine agY rfl ?_
    refine agY rfl ?_
    refine agX rfl ?_
    refine agY rfl ?_
    refine agX rfl ?_
    refine ag3 rfl ?_
    refine agY rfl ?_
    first | refine ag2 rfl ?_ | refine agW (ady rfl rfl) rfl ?_
    refine Ops.new (fun Yf=>?_)
    first | refine Ops.jP ?_ | refine Ops.nY ?_
    refine pq<|W.seq<|W.region rfl ?_
    refine agY rfl ?_
    refine agX rfl ?_
    refine agY rfl ?_
    refine agX rfl ?_
    refine ag1 rfl ?_
    refine agY rfl ?_
    refine agX rfl ?_
    refine agY rfl ?_
    refine agX rfl ?_
    refine ag1 rfl ?_
    refine agW (eH rfl rfl rfl) rfl ?_
    first | refine Ops.jP ?_ | refine Ops.nY ?_
    refine agb rfl rfl rfl<|pq<|W.ret ?_
    refine QJ (hv:=D_ (RN zJ)) ⟨?_,by repeat(first | exact Shut.nil | refine Shut.cons rfl ?_)⟩
    simp only[aDX,Int.toNat_natCast];rw[if_neg c21,if_neg c29,hb,if_neg c36,hfa];rfl

/-! Days, beside each other -/
end Go.aS

/- Cones on the shelves of a stove: what becomes of them, who is where, and all plans. Conditions: none; no program in sight. -/
namespace Go.aS
set_option linter.unusedVariables false
abbrev bI(b:Nat):Value:=.pointer (some ⟨b,0,none⟩)
structure Shf where
 (li ro:Int)
structure Cne where
 (we co ju mo:Int)
structure Sd where
 (sh da:Int)
 deriving DecidableEq
def Shf.row(s:Shf):List Value:=[I s.li,I s.ro]
def Cne.row(c:Cne):List Value:=[I c.we,I c.co,I c.ju,I c.mo]
def Sd.row(a:Sd):List Value:=[I a.sh,I a.da]
abbrev Shf.val(s:Shf):Value:=.agg #[I s.li,I s.ro]
abbrev Cne.val(c:Cne):Value:=.agg #[I c.we,I c.co,I c.ju,I c.mo]
abbrev Sd.val(a:Sd):Value:=.agg #[I a.sh,I a.da]
instance:Rw Shf.row 2:=⟨fun _=>rfl,fun _=>rfl⟩
instance:Rw Cne.row 4:=⟨fun _=>rfl,fun _=>rfl⟩
instance:Rw Sd.row 2:=⟨fun _=>rfl,fun _=>rfl⟩
abbrev B8(n:Nat):Value:=.int .u8 (n:Int)
def aHc(c:Cne):Prop:=1≤c.we∧c.we≤20∧0≤c.co∧c.co≤9∧0≤c.ju∧c.ju≤9∧0≤c.mo∧c.mo≤9
structure aCr(sh:List Shf)(cn:List Cne)(hs:List Int):Prop where
 s1:1≤sh.length
 s3:sh.length≤3
 c3:cn.length≤3
 d1:1≤hs.length
 d4:hs.length≤4
 Ij:∀s∈sh,0≤s.li∧s.li≤3∧1≤s.ro∧s.ro≤2
 cne:∀c∈cn,aHc c
 hts:∀x∈hs,0≤x∧x≤5

def htA(hs:List Int)(d:Nat):Int:=hs.getD d 0
def shA(sh:List Shf)(k:Nat):Shf:=sh.getD k ⟨0,0⟩
def aDG(c:Cne)(li:Int)(hs:List Int)(d0 d:Nat):Bool:=
 decide (min (if d=d0 then c.co else if d0<d then htA hs (d-1)+li+c.ju else 0) c.mo<htA hs d+li)
inductive aGw where
 | crk (d:Nat)
 | dry (d:Nat)
 | wet (d:Nat)
def aFx(c:Cne)(li:Int)(hs:List Int)(d0:Nat):Nat→Nat→Int→aGw
 | 0,d,_=>.wet (d-1)
 | n+1,d,s=>if aDG c li hs d0 d then .crk d else if c.we≤s+(htA hs d+li)then .dry d else aFx c li hs d0 n (d+1) (s+(htA hs d+li))
def aGa(sh:List Shf)(c:Cne)(hs:List Int)(k d:Nat):aGw:=aFx c (shA sh k).li hs d (hs.length-d) d 0
def aGw.aJd:aGw→Option Nat
 | .dry d=>some d
 | _=>none
theorem aGH{c:Cne}{li:Int}{hs:List Int}{d0:Nat}:∀{n d:Nat} {s:Int} {e:Nat},aFx c li hs d0 n d s= .dry e→d≤e∧e<d+n
 | 0,d,s,e,h=>by simp[aFx]at h
 | n+1,d,s,e,h=>by
  rw[aFx]at h
  split at h
  ·cases h
  split at h
  ·cases h;omega
  ·have:=aGH h;omega
def aFj(sh:List Shf)(c:Cne)(hs:List Int)(k d:Nat):Bool:=(aGa sh c hs k d).aJd.isSome
def aGx(sh:List Shf)(c:Cne)(hs:List Int)(k:Nat):List Sd:=(List.range hs.length).flatMap fun d=>if aFj sh c hs k d then[⟨k,d⟩]else[]
def aB8(sh:List Shf)(c:Cne)(hs:List Int):List Sd:=(List.range sh.length).flatMap fun k=>aGx sh c hs k
theorem aFL{sh:List Shf}{c:Cne}{hs:List Int}{a:Sd}(h:a∈aB8 sh c hs):∃k d e:Nat,a=⟨k,d⟩∧k<sh.length∧d<hs.length∧aGa sh c hs k d= .dry e∧d≤e∧e<hs.length:=by
 simp only[aB8,aGx,List.mem_flatMap,List.mem_range]at h
 obtain⟨k,hk,d,hd,h⟩:=h
 split at h
 ·rename_i hi
  have e:a=⟨k,d⟩:=by simpa using h
  unfold aFj at hi
  cases hf:aGa sh c hs k d with
  | dry x=>have:=aGH hf;exact⟨k,d,x,e,hk,hd,hf,by omega,by omega⟩
  | crk x=>rw[hf]at hi;cases hi
  | wet x=>rw[hf]at hi;cases hi
 ·cases h
theorem aID{sh:List Shf}{c:Cne}{hs:List Int}{k:Nat}:(aGx sh c hs k).length≤hs.length:=by
 unfold aGx
 generalize hs.length=n
 induction n with
 | zero=>simp
 | succ n ih=>
  rw[List.range_succ,List.flatMap_append,List.length_append]
  have:(List.flatMap (fun d=>if aFj sh c hs k d=true then[(⟨k,d⟩:Sd)]else[]) [n]).length≤1:=by
   simp only[List.flatMap_cons,List.flatMap_nil,List.append_nil];split <;>simp
  omega
theorem aHd{sh:List Shf}{c:Cne}{hs:List Int}:(aB8 sh c hs).length≤sh.length*hs.length:=by
 unfold aB8
 generalize sh.length=n
 induction n with
 | zero=>simp
 | succ n ih=>
  rw[List.range_succ,List.flatMap_append,List.length_append]
  have:(List.flatMap (fun k=>aGx sh c hs k) [n]).length≤hs.length:=by simpa using aID
  rw[Nat.succ_mul];omega

/-! Who is where -/
def aFp(i k:Nat):Nat→Nat→List Nat→List Nat
 | 0,_,q=>q
 | n+1,d,q=>aFp i k n (d+1) (q.set (k*4+d) (q.getD (k*4+d) 0||| 2 ^ i))
def aJH(sh:List Shf)(c:Cne)(hs:List Int)(a:Sd):Nat:=((aGa sh c hs a.sh.toNat a.da.toNat).aJd.getD 0)+1-a.da.toNat
def aDw(sh:List Shf)(hs:List Int)(q:List Nat)(i:Nat)(c:Cne)(a:Sd):List Nat:=aFp i a.sh.toNat (aJH sh c hs a) a.da.toNat q
def aDH(c:Nat):List Nat:=(List.range 3).filter fun i=>c.testBit i
def aJI(c:Nat):List Int:=(aDH c).map fun(i:Nat)=>(i:Int)
theorem aGb{c:Nat}:(aDH c).length≤3:=by
 have:=List.length_filter_le (fun i=>c.testBit i) (List.range 3)
 simpa[aDH]using this
theorem aHe{c:Nat}:(aJI c).length=(aDH c).length:=by simp[aJI]
def aCG(sh:List Shf)(hs:List Int)(q:List Nat):Bool:=(List.range sh.length).all fun k=>(List.range hs.length).all fun d=> !decide ((shA sh k).ro<(aDH (q.getD (k*4+d) 0)).length)
structure QOK(q:List Nat):Prop where
 len:q.length=12
 lt:∀x∈q,x<8
def aBS:List Nat:=List.replicate 12 0
theorem QOK.zero:QOK aBS:=⟨rfl,fun x h=>by have:=List.eq_of_mem_replicate h;omega⟩
theorem QOK.at{q:List Nat}(h:QOK q)(j:Nat):q.getD j 0<8:=by
 rw[List.getD_eq_getElem?_getD]
 cases e:q[j]? with
 | none=>simp
 | some x=>exact h.lt x (List.mem_of_getElem? e)
theorem or8{a i:Nat}(ha:a<8)(hi:i<3):a||| 2 ^ i<8:=by
 have:(2:Nat) ^ i<2 ^ 3:=Nat.pow_lt_pow_right (by omega) hi
 exact Nat.or_lt_two_pow (n:=3) ha this
theorem QOK.set{q:List Nat}(h:QOK q){j i:Nat}(hi:i<3):QOK (q.set j (q.getD j 0||| 2 ^ i)):=
 ⟨by rw[List.length_set];exact h.len,fun x hx=>by
  rcases List.mem_or_eq_of_mem_set hx with hx | hx
  ·exact h.lt x hx
  ·rw[hx];exact or8 (h.at j) hi⟩
theorem QOK.put{i k:Nat}(hi:i<3):∀{n d:Nat} {q:List Nat},QOK q→QOK (aFp i k n d q)
 | 0,_,_,h=>h
 | n+1,d,q,h=>QOK.put hi (n:=n) (d:=d+1) (h.set hi)
theorem QOK.aDw{sh:List Shf}{hs:List Int}{q:List Nat}{i:Nat}{c:Cne}{a:Sd}(h:QOK q)(hi:i<3):QOK (aS.aDw sh hs q i c a):=QOK.put hi h

/-! All plans -/
def off:Sd:=⟨-1,0⟩
def aBW(sh:List Shf)(hs:List Int):List Cne→Nat→List Sd→List Nat→List (List Sd)
 | [],_,p,_=>[p]
 | c::cs,i,p,q=>aBW sh hs cs (i+1) (p.set i off) q++(aB8 sh c hs).flatMap fun a=>if aCG sh hs (aDw sh hs q i c a)then aBW sh hs cs (i+1) (p.set i a) (aDw sh hs q i c a)else[]
def aFy:List Sd:=[⟨0,0⟩,⟨0,0⟩,⟨0,0⟩]
def aCA(sh:List Shf)(cn:List Cne)(hs:List Int):List (List Sd):=aBW sh hs cn 0 aFy aBS
def aCw(n:Nat)(p:List Sd):Nat:=(p.take n).countP fun a=>decide (0≤a.sh)
def takeB(n:Nat)(s:List Sd×Int×Bool)(p:List Sd):List Sd×Int×Bool:=if s.2.2=false∨-(aCw n p:Int)<s.2.1 then(p,-(aCw n p:Int),true)else s
def aBE(sh:List Shf)(cn:List Cne)(hs:List Int):List Sd×Int×Bool:=(aCA sh cn hs).foldl (takeB cn.length) (aFy,0,false)
theorem aGI{n:Nat}:∀{l:List (List Sd)} {s:List Sd×Int×Bool} {X:List (List Sd)},(s.2.2=true→s.1∈X)→(∀p∈l,p∈X)→(s.2.2=true∨l≠[])→(l.foldl (takeB n) s).1∈X
 | [],s,X,h1,_,h3=>by rcases h3 with h | h;exact h1 h;exact absurd rfl h
 | p::l,s,X,h1,h2,h3=>by
  rw[List.foldl_cons]
  refine aGI (fun h=>?_) (fun r hr=>h2 r (List.mem_cons_of_mem _ hr)) (.inl ?_)
  ·unfold takeB at h⊢
   split at h <;>rename_i hc
   ·rw[if_pos hc];exact h2 p (List.mem_cons_self ..)
   ·rw[if_neg hc];exact h1 h
  ·unfold takeB
   split
   ·rfl
   ·rename_i hc
    cases hs:s.2.2 with
    | true=>rfl
    | false=>exact absurd (.inl hs) hc
theorem aGJ{sh:List Shf}{hs:List Int}:∀{cs:List Cne} {i:Nat} {p:List Sd} {q:List Nat},aBW sh hs cs i p q≠[]
 | [],_,_,_=>by simp[aBW]
 | c::cs,i,p,q=>by rw[aBW];exact fun h=>aGJ (List.append_eq_nil_iff.1 h).1
theorem aIE{sh:List Shf}{cn:List Cne}{hs:List Int}:(aBE sh cn hs).1∈aCA sh cn hs:=aGI (fun h=>by cases h) (fun _ h=>h) (.inr aGJ)

def azd(sh:List Shf)(hs:List Int):List Cne→Nat→List Sd→List Nat→List Nat
 | [],_,_,q=>q
 | c::cs,i,p,q=>azd sh hs cs (i+1) p (if(p.getD i off).sh= -1 then q else aDw sh hs q i c (p.getD i off))
def aHz(sh:List Shf)(hs:List Int)(cs:List Cne)(i:Nat)(p:List Sd):Prop:=∀j c,cs[j]? =some c→p.getD (i+j) off=off∨p.getD (i+j) off∈aB8 sh c hs
theorem aDt{sh:List Shf}{hs:List Int}:∀{cs:List Cne} {i:Nat} {p:List Sd} {q:List Nat} {r:List Sd},r∈aBW sh hs cs i p q→r.length=p.length∧∀j,j<i→r[j]? =p[j]?
 | [],i,p,q,r,h=>by
              have:r=p:=by simpa[aBW]using h
              subst this;exact⟨rfl,fun _ _=>rfl⟩
 | c::cs,i,p,q,r,h=>by
  rw[aBW]at h
  rcases List.mem_append.1 h with h | h
  ·obtain⟨h1,h2⟩:=aDt h
   exact⟨by rw[h1,List.length_set],fun j hj=>by rw[h2 j (by omega),List.getElem?_set_ne (by omega)]⟩
  ·obtain⟨a,ha,h⟩:=List.mem_flatMap.1 h
   split at h
   ·obtain⟨h1,h2⟩:=aDt h
    exact⟨by rw[h1,List.length_set],fun j hj=>by rw[h2 j (by omega),List.getElem?_set_ne (by omega)]⟩
   ·cases h
theorem aGc{sh:List Shf}{hs:List Int}:∀{cs:List Cne} {i:Nat} {p:List Sd} {q:List Nat} {r:List Sd},r∈aBW sh hs cs i p q→i+cs.length≤p.length→aCG sh hs q=true→aHz sh hs cs i r∧aCG sh hs (azd sh hs cs i r q)=true
 | [],i,p,q,r,h,_,hq=>⟨fun j c h=>by simp at h,hq⟩
 | c::cs,i,p,q,r,h,hl,hq=>by
  simp only[List.length_cons]at hl
  have step:∀{a:Sd} {q':List Nat},r∈aBW sh hs cs (i+1) (p.set i a) q'→aCG sh hs q'=true→(a=off∨a∈aB8 sh c hs)→r.getD i off=a∧aHz sh hs (c::cs) i r∧aCG sh hs (azd sh hs cs (i+1) r q')=true:=by
   intro a q' h hq' ha
   obtain⟨h1,h2⟩:=aDt h
   have hi:r.getD i off=a:=by
    rw[List.getD_eq_getElem?_getD,h2 i (by omega),List.getElem?_set_self (by omega)];rfl
   obtain⟨h3,h4⟩:=aGc h (by rw[List.length_set];omega) hq'
   refine⟨hi,fun j c' hj=>?_,h4⟩
   cases j with
   | zero=>
    have:c'=c:=by simpa using hj.symm
    subst this
    rw[Nat.add_zero,hi];exact ha
   | succ j=>
    have:=h3 j c' (by simpa using hj)
    rwa[show i+1+j=i+(j+1) by omega]at this
  rw[aBW]at h
  rcases List.mem_append.1 h with h | h
  ·obtain⟨h1,h2,h3⟩:=step h hq (.inl rfl)
   refine⟨h2,?_⟩
   rw[azd,h1,if_pos (show off.sh= -1 from rfl)];exact h3
  ·obtain⟨a,ha,h⟩:=List.mem_flatMap.1 h
   split at h
   ·rename_i hr
    obtain⟨h1,h2,h3⟩:=step h hr (.inr ha)
    obtain⟨k,d,e,rfl,-⟩:=aFL ha
    refine⟨h2,?_⟩
    rw[azd,h1,if_neg (by simp only;omega)];exact h3
   ·cases h
theorem aKd{sh:List Shf}{cn:List Cne}{hs:List Int}(h:aCr sh cn hs):aCG sh hs aBS=true:=by
 simp only[aCG,List.all_eq_true,List.mem_range,Bool.not_eq_true',decide_eq_false_iff_not]
 intro k hk d hd
 have e:aBS.getD (k*4+d) 0=0:=by
  rw[List.getD_eq_getElem?_getD]
  cases e:aBS[k*4+d]? with
  | none=>rfl
  | some x=>exact List.eq_of_mem_replicate (List.mem_of_getElem? e)
 rw[e]
 have e2:(aDH 0).length=0:=by decide
 rw[e2]
 have:shA sh k∈sh:=by
  unfold shA;rw[List.getD_eq_getElem?_getD,List.getElem?_eq_getElem hk];exact List.getElem_mem hk
 have:=h.Ij _ this
 omega
theorem aE4{sh:List Shf}{cn:List Cne}{hs:List Int}(h:aCr sh cn hs):(aBE sh cn hs).1.length=3∧aHz sh hs cn 0 (aBE sh cn hs).1∧aCG sh hs (azd sh hs cn 0 (aBE sh cn hs).1 aBS)=true:=by
 have hm:=aIE (sh:=sh) (cn:=cn) (hs:=hs)
 obtain⟨h1,h2⟩:=aGc hm (by have:=h.c3;simp[aFy];omega) (aKd h)
 exact⟨(aDt hm).1.trans rfl,h1,h2⟩

/-! No more than there are -/
theorem aHR{i k:Nat}:∀{n d:Nat} {q:List Nat} {j:Nat},k*4+d+n≤q.length→(aFp i k n d q).getD j 0=if k*4+d≤j∧j<k*4+d+n then q.getD j 0||| 2 ^ i else q.getD j 0
 | 0,d,q,j,h=>by rw[aFp,if_neg (by omega)]
 | n+1,d,q,j,h=>by
  rw[aFp,aHR (by rw[List.length_set];omega)]
  by_cases e:j=k*4+d
  ·subst e
   rw[if_neg (by omega),if_pos (by omega),List.getD_eq_getElem?_getD,List.getElem?_set_self (by omega)];rfl
  ·have e2:(q.set (k*4+d) (q.getD (k*4+d) 0||| 2 ^ i)).getD j 0=q.getD j 0:=by
    rw[List.getD_eq_getElem?_getD,List.getElem?_set_ne (Ne.symm e),←List.getD_eq_getElem?_getD]
   rw[e2]
   by_cases h2:k*4+(d+1)≤j∧j<k*4+(d+1)+n
   ·rw[if_pos h2,if_pos (by omega)]
   ·rw[if_neg h2,if_neg (by omega)]
theorem aHf{i k:Nat}:∀{n d:Nat} {q:List Nat},(aFp i k n d q).length=q.length
 | 0,_,_=>rfl
 | n+1,d,q=>by rw[aFp,aHf,List.length_set]
def aHS(n:Nat)(p:List Sd)(q:List Nat):Prop:=∀k d i,k<3→d<4→(q.getD (k*4+d) 0).testBit i=true→i<n∧(p.getD i off).sh=k
theorem aEk{sh:List Shf}{hs:List Int}(hs3:sh.length≤3)(h4:hs.length≤4):∀{cs:List Cne} {i:Nat} {p:List Sd} {q:List Nat},aHz sh hs cs i p→q.length=12→aHS i p q→aHS (i+cs.length) p (azd sh hs cs i p q)∧(azd sh hs cs i p q).length=12
 | [],i,p,q,_,hq,h=>⟨by simpa[azd]using h,hq⟩
 | c::cs,i,p,q,hf,hq,h=>by
  rw[azd,List.length_cons,show i+(cs.length+1)=i+1+cs.length by omega]
  have hf':aHz sh hs cs (i+1) p:=fun j c' hj=>by
   have:=hf (j+1) c' (by simpa using hj)
   rwa[show i+(j+1)=i+1+j by omega]at this
  have h0:=hf 0 c rfl
  rw[Nat.add_zero]at h0
  split
  ·exact aEk hs3 h4 hf' hq fun k d j hk hd hb=>by have:=h k d j hk hd hb;omega
  ·rename_i hne
   rcases h0 with h0 | h0
   ·rw[h0]at hne;exact absurd rfl hne
   obtain⟨k0,d0,e,ha,hk0,hd0,hfa,h5,h6⟩:=aFL h0
   refine aEk hs3 h4 hf' (by unfold aDw;rw[aHf];exact hq) fun k d j hk hd hb=>?_
   rw[ha]at hb
   unfold aDw aJH at hb
   simp only[Int.toNat_natCast]at hb
   rw[hfa]at hb
   simp only[aGw.aJd,Option.getD_some]at hb
   rw[aHR (by omega)]at hb
   split at hb
   ·rename_i hc
    rw[Nat.testBit_or,Bool.or_eq_true]at hb
    rcases hb with hb | hb
    ·have:=h k d j hk hd hb;omega
    ·rw[Nat.testBit_two_pow]at hb
     have:i=j:=by simpa using hb
     subst this
     refine⟨by omega,?_⟩
     rw[ha]
     have:k0=k:=by omega
     subst this;rfl
   ·have:=h k d j hk hd hb;omega
def aGY(q:List Nat)(d:Nat):Nat→Nat
 | 0=>0
 | k+1=>aGY q d k+(aDH (q.getD (k*4+d) 0)).length
theorem aHT{n:Nat}{p:List Sd}{q:List Nat}{d:Nat}(h:aHS n p q)(hd:d<4):∀{K:Nat},K≤3→aGY q d K≤(List.range 3).countP fun i=>decide (i<n∧(p.getD i off).sh<K∧0≤(p.getD i off).sh)
 | 0,_=>Nat.zero_le _
 | K+1,hK=>by
  have ih:=aHT h hd (K:=K) (by omega)
  rw[aGY]
  have h1:(aDH (q.getD (K*4+d) 0)).length≤(List.range 3).countP fun i=>decide (i<n∧(p.getD i off).sh=K):=by
   unfold aDH
   rw[←List.countP_eq_length_filter]
   exact List.countP_mono_left fun i _ hb=>by simpa using h K d i (by omega) hd hb
  have h2:∀l:List Nat,(l.countP fun i=>decide (i<n∧(p.getD i off).sh<K∧0≤(p.getD i off).sh))+(l.countP fun i=>decide (i<n∧(p.getD i off).sh=K))≤l.countP fun i=>decide (i<n∧(p.getD i off).sh<((K+1:Nat):Int)∧0≤(p.getD i off).sh):=by
   intro l
   induction l with
   | nil=>simp
   | cons x l ih=>
    simp only[List.countP_cons]
    generalize(p.getD x off).sh=z at*
    have:(if decide (x<n∧z<(K:Int)∧0≤z)=true then 1 else 0)+(if decide (x<n∧z=(K:Int))=true then 1 else 0)≤(if decide (x<n∧z<((K+1:Nat):Int)∧0≤z)=true then 1 else 0):=by
     simp only[decide_eq_true_eq]
     split <;>split <;>split <;>omega
    omega
  have:=h2 (List.range 3)
  omega
theorem aIc{n:Nat}{f:Nat→Prop}[DecidablePred f](hn:n≤3):((List.range 3).countP fun i=>decide (i<n∧f i))≤n:=by
 have h1:((List.range 3).countP fun i=>decide (i<n∧f i))≤(List.range 3).countP fun i=>decide (i<n):=List.countP_mono_left fun i _ h=>by simp at h⊢;exact h.1
 have h2:((List.range 3).countP fun i=>decide (i<n))=n:=by
  rcases(by omega:n=0∨n=1∨n=2∨n=3)with rfl | rfl | rfl | rfl <;>decide
 omega
theorem aIF{sh:List Shf}{cn:List Cne}{hs:List Int}(h:aCr sh cn hs){d:Nat}(hd:d<4):aGY (azd sh hs cn 0 (aBE sh cn hs).1 aBS) d sh.length≤cn.length:=by
 obtain⟨h1,h2,h3⟩:=aE4 h
 have h0:aHS 0 (aBE sh cn hs).1 aBS:=fun k d i hk hd hb=>by
  have e:aBS.getD (k*4+d) 0=0:=by
   rw[List.getD_eq_getElem?_getD]
   cases e:aBS[k*4+d]? with
   | none=>rfl
   | some x=>exact List.eq_of_mem_replicate (List.mem_of_getElem? e)
  rw[e,Nat.zero_testBit]at hb;cases hb
 have h4:=(aEk h.s3 h.d4 h2 rfl h0).1
 rw[Nat.zero_add]at h4
 have h5:=aHT h4 hd h.s3
 have h6:=aIc (n:=cn.length) (f:=fun i=>((aBE sh cn hs).1.getD i off).sh<(sh.length:Int)∧0≤((aBE sh cn hs).1.getD i off).sh) h.c3
 omega
end Go.aS

/- Stoves and heats that are valid are found so. Conditions: none; over the given program. -/
namespace Go.aS
set_option maxRecDepth 100000
set_option maxHeartbeats 4000000
theorem aHA(main:Side)(h:Hp)(n lo hi:Int):Pu prog main aDc #[I n,I lo,I hi] h (.bool (decide (lo≤n∧n≤hi))):=by
 refine dV.aG aFG rfl (by show 3≤15;decide) [(0,I n),(1,I lo),(2,I hi)] ⟨rfl,rfl,rfl,trivial⟩ ?_
 refine W.seq<|W.region rfl<|agb rfl rfl rfl<|pq<|W.seq<|W.region rfl<|qm rfl rfl rfl<|qm rfl rfl rfl ?_
 refine agW (Lr rfl rfl rfl) rfl ?_
 refine qm rfl rfl rfl ?_
 refine Ops.ask (fun ae5=>?_) (fun ae5=>?_)
 ·refine oq (aN rfl rfl) rfl (ak rfl rfl rfl) rfl rfl ?_
  refine oq (aN rfl rfl) rfl (ak rfl rfl rfl) rfl rfl ?_
  refine oq (Lr rfl rfl rfl) rfl (ak rfl rfl rfl) rfl rfl ?_
  refine agW (dG rfl rfl rfl) rfl ?_
  refine agb rfl rfl rfl<|pq<|W.ret ?_
  refine uZ ?_
  first
   | exact congrArg Value.bool (decide_eq_false fun h=> ‹¬_› h.1).symm
   | exact congrArg Value.bool (decide_eq_decide.2 ⟨fun h=>⟨‹_›,h⟩,fun h=>h.2⟩)
 ·refine Ops.no ?_
  refine Ops.no ?_
  refine Ops.no ?_
  refine agW (iH rfl rfl rfl) rfl ?_
  refine agb rfl rfl rfl<|pq<|W.ret ?_
  refine uZ ?_
  first
   | exact congrArg Value.bool (decide_eq_false fun h=> ‹¬_› h.1).symm
   | exact congrArg Value.bool (decide_eq_decide.2 ⟨fun h=>⟨‹_›,h⟩,fun h=>h.2⟩)
theorem aAA{main:Side}{h:Hp}{n lo hi:Int}(hn:lo≤n∧n≤hi):Pu prog main aDc #[I n,I lo,I hi] h (.bool true):=by
 have:=aHA main h n lo hi
 rwa[decide_eq_true hn]at this
theorem aEm(main:Side)(h:Hp)(n lo hi:Int)(hn:lo≤n∧n≤hi):Pu prog main aEM #[I n,I lo,I hi] h (I 0):=by
 refine dV.aG aFZ rfl (by show 3≤15;decide) [(0,I n),(1,I lo),(2,I hi)] ⟨rfl,rfl,rfl,trivial⟩ ?_
 refine W.seq<|W.region rfl<|agb rfl rfl rfl<|pq<|W.seq<|W.block<|W.seq<|W.region rfl<|qm rfl rfl rfl ?_
 refine qm rfl rfl rfl ?_
 refine agW (fO rfl rfl rfl) rfl ?_
 refine agb rfl rfl rfl<|pq ?_
 refine W.bC rfl (fun c7=>?_) (fun c7=>?_)
 ·refine W.seq<|W.region rfl<|agb rfl rfl rfl<|pq<|W.ret<|cZ<|aY ?_
  first
   | exact uZ rfl
   | (exfalso;omega)
 ·refine W.seq<|W.region rfl<|qm rfl rfl rfl<|qm rfl rfl rfl ?_
  refine agW (rC rfl rfl rfl) rfl ?_
  refine agb rfl rfl rfl<|pq ?_
  refine W.bC rfl (fun c11=>?_) (fun c11=>?_)
  ·refine W.seq<|W.region rfl<|agb rfl rfl rfl<|pq<|W.ret<|cZ<|aY ?_
   first
    | exact uZ rfl
    | (exfalso;omega)
  ·refine W.skip<|dI<|aA<|W.seq<|W.region rfl<|agb rfl rfl rfl<|pq<|W.ret ?_
   first
    | exact uZ rfl
    | (exfalso;omega)
theorem aId(main:Side)(h:Hp)(vl:Value)(hl:Sl h fH vl [0,0]):Pu prog main aEK #[vl] h (I 0):=by
 obtain⟨a,cap,rfl⟩:=hl.dA
 refine dV.aG aFX rfl (by show 1≤15;decide) [(0,.slice a 2 cap)] ⟨rfl,trivial⟩ ?_
 refine W.seq<|W.region rfl<|agb rfl rfl rfl<|pq<|W.seq<|W.seq<|W.region rfl<|qm rfl rfl rfl ?_
 refine agW (dM rfl rfl) rfl ?_
 refine qm rfl rfl rfl<|pq<|W.block ?_
 refine W.loop (σ:=Nat) (fun k=>k≤2) (fun k=>[(7,I k),(6,I 2),(5,.slice a 2 cap)]) (fun _=>[]) (fun k=>2-k) 0 (Nat.zero_le _) ⟨rfl,rfl,rfl,trivial⟩ .refl ?_
 rintro k hk
 refine W.seq<|W.region rfl ?_
 refine agW (fO rfl rfl rfl) rfl ?_
 refine pq<|W.seq ?_
 refine W.bC rfl (fun c8=>?_) (fun c8=>?_)
 ·have hk2:k<2:=by omega
  have hz:([0,0]:List Int)[k]? =some 0:=by rcases(by omega:k=0∨k=1)with rfl | rfl <;>rfl
  obtain⟨b,off,c,E,fz,rfl,hb,hx,hy,hw⟩:=hl.at hz
  have hx':c[off+k*1]? =some (I 0):=by have:=hw 0 (by decide);simpa[fH]using this
  clear hx hw
  refine W.skip<|aA<|W.seq<|W.block<|W.seq<|W.region rfl ?_
  refine ag3 rfl ?_
  refine agX rfl ?_
  refine agb rfl rfl rfl<|pq<|W.seq<|W.region rfl<|qm rfl rfl rfl ?_
  refine agW (nG rfl rfl rfl) rfl ?_
  refine pq ?_
  refine W.bC rfl (fun c12=>?_) (fun c12=>?_)
  ·refine W.seq<|W.region rfl<|qm rfl rfl rfl<|agb rfl rfl rfl<|pq<|W.ret<|cZ<|aY<|aY ?_
   refine cZ<|aY ?_
   exfalso;omega
  ·refine W.skip<|dI<|aA<|W.region rfl ?_
   refine ag1 rfl ?_
   refine qm rfl rfl rfl<|pq ?_
   exact⟨rfl,k+1,hk2,by omega,⟨rfl,rfl,rfl,trivial⟩,.refl⟩
 ·refine W.exit<|bP<|bP<|gG<|aA<|W.seq<|W.region rfl<|agb rfl rfl rfl<|pq ?_
  refine W.ret ?_
  exact uZ rfl
theorem aGy(main:Side)(h:Hp)(c:Cne)(hc:aHc c):Pu prog main aDy #[c.val] h (I 0):=by
 obtain⟨h1,h2,h3,h4,h5,h6,h7,h8⟩:=hc
 refine dV.aG aEX rfl (by show 1≤25;decide) [(0,c.val)] ⟨rfl,trivial⟩ ?_
 refine W.seq<|W.region rfl ?_
 refine Ops.box (fun β1=>?_)
 refine agb rfl rfl rfl<|pq<|W.seq<|W.seq<|W.region rfl ?_
 refine agY rfl ?_
 refine agX rfl ?_
 refine cp (u:=.bool true) (fun h' hE hL=>?_) ?_
 ·exact aAA (by omega)
 refine agW (xU rfl rfl) rfl ?_
 refine qm rfl rfl rfl ?_
 refine oq (ay rfl rfl) rfl (ak rfl rfl rfl) rfl rfl ?_
 refine oq (iQ rfl rfl) rfl (ak rfl rfl rfl) rfl rfl ?_
 refine cp (u:=.bool true) (fun h' hE hL=>?_) ?_
 ·exact aAA (by omega)
 refine oq (xU rfl rfl) rfl (ak rfl rfl rfl) rfl rfl ?_
 refine agW (iH rfl rfl rfl) rfl ?_
 refine qm rfl rfl rfl ?_
 refine oq (ay rfl rfl) rfl (ak rfl rfl rfl) rfl rfl ?_
 refine oq (iQ rfl rfl) rfl (ak rfl rfl rfl) rfl rfl ?_
 refine cp (u:=.bool true) (fun h' hE hL=>?_) ?_
 ·exact aAA (by omega)
 refine oq (xU rfl rfl) rfl (ak rfl rfl rfl) rfl rfl ?_
 refine agW (iH rfl rfl rfl) rfl ?_
 refine qm rfl rfl rfl ?_
 refine oq (ay rfl rfl) rfl (ak rfl rfl rfl) rfl rfl ?_
 refine oq (iQ rfl rfl) rfl (ak rfl rfl rfl) rfl rfl ?_
 refine cp (u:=.bool true) (fun h' hE hL=>?_) ?_
 ·exact aAA (by omega)
 refine oq (xU rfl rfl) rfl (ak rfl rfl rfl) rfl rfl ?_
 refine agW (iH rfl rfl rfl) rfl ?_
 refine pq ?_
 refine W.bZ ?_
 refine W.skip<|aA<|W.seq<|W.region rfl<|agb rfl rfl rfl<|pq<|W.ret ?_
 exact uZ rfl

abbrev aFr(vs vc:Value)(hs:List Int)(no ri to:Int):Value:=.agg #[vs,vc,I hs.length,I no,I ri,I to]
theorem aIe(main:Side)(h:Hp)(sh:List Shf)(cn:List Cne)(hs:List Int)(no ri to:Int)(vs vc:Value)(hok:aCr sh cn hs)(hn:0≤no∧no≤5∧0≤ri∧ri≤3∧0≤to∧to≤5)(h1:Sl h Shf.row vs sh)(h2:Sl h Cne.row vc cn):Pu prog main aEL #[aFr vs vc hs no ri to] h (I 0):=by
 have hs1:=hok.s1
 have hs3:=hok.s3
 have hc3:=hok.c3
 have hd1:=hok.d1
 have hd4:=hok.d4
 obtain⟨a1,cap1,rfl⟩:=h1.dA
 obtain⟨a2,cap2,rfl⟩:=h2.dA
 refine dV.aG aFY rfl (by show 1≤77;decide) [(0,aFr (.slice a1 sh.length cap1) (.slice a2 cn.length cap2) hs no ri to)] ⟨rfl,trivial⟩ ?_
 refine W.seq<|W.region rfl ?_
 refine Ops.box (fun β1=>?_)
 refine agb rfl rfl rfl<|pq<|W.seq<|W.seq<|W.region rfl ?_
 refine agY rfl ?_
 refine agX rfl ?_
 refine agW (dM rfl rfl) rfl ?_
 refine cp (u:=I 0) (fun h' hE hL=>?_) ?_
 ·exact aEm _ _ _ _ _ (by omega)
 refine agb rfl rfl rfl<|pq<|W.seq<|W.region rfl<|qm rfl rfl rfl ?_
 refine agW (nG rfl rfl rfl) rfl ?_
 refine pq ?_
 refine W.bC rfl (fun c15=>?_) (fun c15=>?_)
 ·refine W.seq<|W.region rfl<|qm rfl rfl rfl<|agb rfl rfl rfl<|pq<|W.ret<|aY ?_
  first
   | exact uZ rfl
   | (exfalso;exact absurd rfl ‹_›)
 ·refine W.skip<|aA<|W.seq<|W.seq<|W.region rfl ?_
  refine agY rfl ?_
  refine agX rfl ?_
  refine agW (dM rfl rfl) rfl ?_
  refine qm rfl rfl rfl<|pq<|W.block ?_
  refine W.loop (σ:=Nat) (fun k=>k≤sh.length) (fun k=>[(20,I k),(19,I sh.length),(18,.slice a1 sh.length cap1),(1,bI β1)]) (fun _=>[(β1,.cells #[.slice a1 sh.length cap1,.slice a2 cn.length cap2,I hs.length,I no,I ri,I to] awO (0,0))]) (fun k=>sh.length-k) 0 (Nat.zero_le _) ⟨rfl,rfl,rfl,rfl,trivial⟩ .refl ?_
  rintro k hk
  refine W.seq<|W.region rfl ?_
  refine agW (fO rfl rfl rfl) rfl ?_
  refine pq<|W.seq ?_
  refine W.bC rfl (fun c21=>?_) (fun c21=>?_)
  ·obtain⟨s,hsk,-⟩:=has (show k<sh.length by omega)
   have hso:=hok.Ij s (List.mem_of_getElem? hsk)
   obtain⟨b,off,c,E,fz,rfl,hb,hx,hy,hw⟩:=h1.at hsk
   have hx':c.extract (off+k*2) (off+k*2+2)= #[I s.li,I s.ro]:=hx
   clear hx hw
   refine W.skip<|aA<|W.seq<|W.block<|W.seq<|W.region rfl ?_
   refine ag3 rfl ?_
   first | refine ag2 rfl ?_ | refine agW (ady rfl rfl) rfl ?_
   refine Ops.new (fun mZ=>?_)
   first | refine Ops.jP ?_ | refine Ops.nY ?_
   refine pq<|W.seq<|W.region rfl ?_
   refine agY rfl ?_
   refine agX rfl ?_
   refine cp (u:=.bool true) (fun h' hE hL=>?_) ?_
   ·exact aAA (by omega)
   refine agW (xU rfl rfl) rfl ?_
   refine qm rfl rfl rfl ?_
   refine oq (ay rfl rfl) rfl (ak rfl rfl rfl) rfl rfl ?_
   refine oq (iQ rfl rfl) rfl (ak rfl rfl rfl) rfl rfl ?_
   refine cp (u:=.bool true) (fun h' hE hL=>?_) ?_
   ·exact aAA (by omega)
   refine oq (xU rfl rfl) rfl (ak rfl rfl rfl) rfl rfl ?_
   refine agW (iH rfl rfl rfl) rfl ?_
   refine pq ?_
   refine W.bZ ?_
   refine W.skip<|dI<|aA<|W.region rfl ?_
   refine ag1 rfl ?_
   refine qm rfl rfl rfl<|pq ?_
   exact⟨rfl,k+1,by omega,by omega,⟨rfl,rfl,rfl,rfl,trivial⟩,TW⟩
  ·refine W.exit<|bP<|bP<|gG<|aA<|W.seq<|W.seq<|W.region rfl ?_
   refine agY rfl ?_
   refine agX rfl ?_
   refine agW (dM rfl rfl) rfl ?_
   refine cp (u:=I 0) (fun h' hE hL=>?_) ?_
   ·exact aEm _ _ _ _ _ (by omega)
   refine agb rfl rfl rfl<|pq<|W.seq<|W.region rfl<|qm rfl rfl rfl ?_
   refine agW (nG rfl rfl rfl) rfl ?_
   refine pq ?_
   refine W.bC rfl (fun c40=>?_) (fun c40=>?_)
   ·refine W.seq<|W.region rfl<|qm rfl rfl rfl<|agb rfl rfl rfl<|pq<|W.ret<|aY ?_
    first
     | exact uZ rfl
     | (exfalso;exact absurd rfl ‹_›)
   ·refine W.skip<|aA<|W.seq<|W.seq<|W.region rfl ?_
    refine agY rfl ?_
    refine agX rfl ?_
    refine agW (dM rfl rfl) rfl ?_
    refine qm rfl rfl rfl<|pq<|W.block ?_
    refine W.loop (σ:=Nat) (fun k=>k≤cn.length) (fun k=>[(45,I k),(44,I cn.length),(43,.slice a2 cn.length cap2),(1,bI β1)]) (fun _=>[(β1,.cells #[.slice a1 sh.length cap1,.slice a2 cn.length cap2,I hs.length,I no,I ri,I to] awO (0,0))]) (fun k=>cn.length-k) 0 (Nat.zero_le _) ⟨rfl,rfl,rfl,rfl,trivial⟩ .refl ?_
    rintro k hk
    refine W.seq<|W.region rfl ?_
    refine agW (fO rfl rfl rfl) rfl ?_
    refine pq<|W.seq ?_
    refine W.bC rfl (fun c46=>?_) (fun c46=>?_)
    ·obtain⟨s,hsk,-⟩:=has (show k<cn.length by omega)
     have hso:=hok.cne s (List.mem_of_getElem? hsk)
     obtain⟨b,off,c,E,fz,rfl,hb,hx,hy,hw⟩:=h2.at hsk
     have hx':c.extract (off+k*4) (off+k*4+4)= #[I s.we,I s.co,I s.ju,I s.mo]:=hx
     clear hx hw
     refine W.skip<|aA<|W.seq<|W.block<|W.seq<|W.region rfl ?_
     refine ag3 rfl ?_
     first | refine ag2 rfl ?_ | refine agW (ady rfl rfl) rfl ?_
     refine Ops.new (fun yD=>?_)
     first | refine Ops.jP ?_ | refine Ops.nY ?_
     refine pq<|W.seq<|W.region rfl ?_
     first | refine ag2 rfl ?_ | refine agW (ady rfl rfl) rfl ?_
     refine cp (fun h' hE hL=>aGy _ _ s hso) ?_
     refine agb rfl rfl rfl<|pq<|W.seq<|W.region rfl<|qm rfl rfl rfl ?_
     refine agW (nG rfl rfl rfl) rfl ?_
     refine pq ?_
     refine W.bC rfl (fun c52=>?_) (fun c52=>?_)
     ·refine W.seq<|W.region rfl<|qm rfl rfl rfl<|agb rfl rfl rfl<|pq<|W.ret<|cZ<|aY<|aY ?_
      refine cZ<|aY ?_
      first
       | exact uZ rfl
       | (exfalso;exact absurd rfl ‹_›)
     ·refine W.skip<|dI<|aA<|W.region rfl ?_
      refine ag1 rfl ?_
      refine qm rfl rfl rfl<|pq ?_
      exact⟨rfl,k+1,by omega,by omega,⟨rfl,rfl,rfl,rfl,trivial⟩,TW⟩
    ·refine W.exit<|bP<|bP<|gG<|aA<|W.seq<|W.seq<|W.region rfl ?_
     refine agY rfl ?_
     refine agX rfl ?_
     refine cp (u:=.bool true) (fun h' hE hL=>?_) ?_
     ·exact aAA (by omega)
     refine agW (xU rfl rfl) rfl ?_
     refine qm rfl rfl rfl ?_
     refine oq (ay rfl rfl) rfl (ak rfl rfl rfl) rfl rfl ?_
     refine oq (iQ rfl rfl) rfl (ak rfl rfl rfl) rfl rfl ?_
     refine cp (u:=.bool true) (fun h' hE hL=>?_) ?_
     ·exact aAA (by omega)
     refine oq (xU rfl rfl) rfl (ak rfl rfl rfl) rfl rfl ?_
     refine agW (iH rfl rfl rfl) rfl ?_
     refine qm rfl rfl rfl ?_
     refine oq (ay rfl rfl) rfl (ak rfl rfl rfl) rfl rfl ?_
     refine oq (iQ rfl rfl) rfl (ak rfl rfl rfl) rfl rfl ?_
     refine cp (u:=.bool true) (fun h' hE hL=>?_) ?_
     ·exact aAA (by omega)
     refine oq (xU rfl rfl) rfl (ak rfl rfl rfl) rfl rfl ?_
     refine agW (iH rfl rfl rfl) rfl ?_
     refine qm rfl rfl rfl ?_
     refine oq (ay rfl rfl) rfl (ak rfl rfl rfl) rfl rfl ?_
     refine oq (iQ rfl rfl) rfl (ak rfl rfl rfl) rfl rfl ?_
     refine cp (u:=.bool true) (fun h' hE hL=>?_) ?_
     ·exact aAA (by omega)
     refine oq (xU rfl rfl) rfl (ak rfl rfl rfl) rfl rfl ?_
     refine agW (iH rfl rfl rfl) rfl ?_
     refine pq ?_
     refine W.bZ ?_
     refine W.skip<|aA<|W.seq<|W.region rfl<|agb rfl rfl rfl<|pq<|W.ret ?_
     first
      | exact uZ rfl
      | (exfalso;exact absurd rfl ‹_›)
def aDP(to ri:Int):Int→List Int→Prop
 | _,[]=>True
 | n,x::l=>0≤x∧x≤to∧x≤n+ri∧aDP to ri x l
theorem aGd(main:Side)(h:Hp)(hs:List Int)(no ri to:Int)(vs vc vh:Value)(ho1:∃a l c,vs= .slice a l c)(ho2:∃a l c,vc= .slice a l c)(hn:0≤no∧no≤5∧0≤ri∧ri≤3∧0≤to∧to≤5)(hh:aDP to ri no hs)(h1:Sl h fH vh hs)(hl:hs.length≤4):Pu prog main aDe #[aFr vs vc hs no ri to,vh] h (I 0):=by
 obtain⟨a1,cap1,rfl⟩:=h1.dA
 obtain⟨a2,l2,c2,rfl⟩:=ho1
 obtain⟨a3,l3,c3,rfl⟩:=ho2
 refine dV.aG aEv rfl (by show 2≤40;decide) [(0,aFr (.slice a2 l2 c2) (.slice a3 l3 c3) hs no ri to),(1,.slice a1 hs.length cap1)] ⟨rfl,rfl,trivial⟩ ?_
 refine W.seq<|W.region rfl ?_
 refine Ops.box (fun yR=>?_)
 refine agb rfl rfl rfl<|pq<|W.seq<|W.seq<|W.region rfl<|qm rfl rfl rfl ?_
 refine agW (dM rfl rfl) rfl ?_
 refine agY rfl ?_
 refine agX rfl ?_
 refine agY rfl ?_
 refine agX rfl ?_
 refine cp (u:=I 0) (fun h' hE hL=>?_) ?_
 ·exact aEm _ _ _ _ _ (by omega)
 refine agb rfl rfl rfl<|pq<|W.seq<|W.region rfl<|qm rfl rfl rfl ?_
 refine agW (nG rfl rfl rfl) rfl ?_
 refine pq ?_
 refine W.bC rfl (fun c17=>?_) (fun c17=>?_)
 ·refine W.seq<|W.region rfl<|qm rfl rfl rfl<|agb rfl rfl rfl<|pq<|W.ret<|aY ?_
  first
   | exact uZ rfl
   | (exfalso;omega)
   | (exfalso;exact absurd rfl ‹_›)
 ·refine W.skip<|aA<|W.seq<|W.region rfl ?_
  refine agY rfl ?_
  refine agX rfl ?_
  refine agb rfl rfl rfl<|pq<|W.seq<|W.seq<|W.region rfl<|qm rfl rfl rfl ?_
  refine agW (dM rfl rfl) rfl ?_
  refine qm rfl rfl rfl<|pq<|W.block ?_
  refine W.aa1 (fun(k:Nat) (n:Int)=>k≤hs.length∧aDP to ri n (hs.drop k)∧0≤n∧n≤5) (fun k n=>[(23,I k),(22,I hs.length),(21,.slice a1 hs.length cap1),(2,bI yR),(6,I n)]) (fun _ _=>[(yR,.cells #[.slice a2 l2 c2,.slice a3 l3 c3,I hs.length,I no,I ri,I to] awO (0,0))]) (fun k _=>hs.length-k) 0 no ⟨Nat.zero_le _,hh,by omega,by omega⟩ ⟨rfl,rfl,rfl,rfl,rfl,trivial⟩ .refl ?_
  rintro k n ⟨hk,hq,hn0,hn5⟩
  refine W.seq<|W.region rfl ?_
  refine agW (fO rfl rfl rfl) rfl ?_
  refine pq<|W.seq ?_
  refine W.bC rfl (fun c24=>?_) (fun c24=>?_)
  ·obtain⟨x,hxk,hdr⟩:=has (show k<hs.length by omega)
   rw[hdr]at hq
   obtain⟨q1,q2,q3,q4⟩:=hq
   obtain⟨b,off,c,E,fz,rfl,hb,hx,hy,hw⟩:=h1.at hxk
   have hx':c[off+k*1]? =some (I x):=by have:=hw 0 (by decide);simpa[fH]using this
   clear hx hw
   refine W.skip<|aA<|W.seq<|W.block<|W.seq<|W.region rfl ?_
   refine ag3 rfl ?_
   refine agX rfl ?_
   refine agb rfl rfl rfl<|pq<|W.seq<|W.seq<|W.region rfl<|qm rfl rfl rfl ?_
   refine agY rfl ?_
   refine agX rfl ?_
   refine cp (u:=.bool true) (fun h' hE hL=>?_) ?_
   ·exact aAA (by omega)
   refine agW (xU rfl rfl) rfl ?_
   refine pq ?_
   refine W.bZ ?_
   refine W.skip<|aA<|W.seq<|W.seq<|W.region rfl<|qm rfl rfl rfl<|qm rfl rfl rfl ?_
   refine agY rfl ?_
   refine agX rfl ?_
   refine ag1 rfl ?_
   refine agW (rC rfl rfl rfl) rfl ?_
   refine pq ?_
   refine W.bC rfl (fun c37=>?_) (fun c37=>?_)
   ·refine W.seq<|W.region rfl<|agb rfl rfl rfl<|pq<|W.ret<|aY<|cZ<|aY<|aY ?_
    refine cZ<|aY ?_
    first
     | exact uZ rfl
     | (exfalso;omega)
     | (exfalso;exact absurd rfl ‹_›)
   ·refine W.skip<|aA<|W.region rfl<|qm rfl rfl rfl<|agb rfl rfl rfl<|Ops.nil<|dI<|aA<|W.region rfl ?_
    refine ag1 rfl ?_
    refine qm rfl rfl rfl<|pq ?_
    exact⟨rfl,k+1,x,⟨by omega,q4,q1,by omega⟩,by omega,⟨rfl,rfl,rfl,rfl,rfl,trivial⟩,.refl⟩
  ·refine W.exit<|bP<|bP<|gG<|aA<|W.seq<|W.region rfl<|agb rfl rfl rfl<|pq ?_
   refine W.ret ?_
   first
    | exact uZ rfl
    | (exfalso;omega)
    | (exfalso;exact absurd rfl ‹_›)
end Go.aS

/- Methods by their rows; nil interfaces. Conditions: none; over any program. -/
namespace Go.aS
theorem MV.row{P:Program}{t:TypeId}{name:String}{f:FuncId}(hm:((P.info? t).bind fun i=>i.methods.find? (·.name==name)).map (fun m=>(m.path.toList.isEmpty,m.func))=some (true,some (f,false)))
  (hd:(P.underlying t).map (fun d=>match d with | .pointer _=>false | _=>true)=some true):MV P t name f:=⟨fun h F v Q H=>by
 obtain⟨m,h1,h2⟩:=Option.map_eq_some_iff.1 hm
 obtain⟨i,h3,h4⟩:=Option.bind_eq_some_iff.1 h1
 obtain⟨d,h5,h6⟩:=Option.map_eq_some_iff.1 hd
 simp only[Prod.mk.injEq]at h2
 have hp:m.path.toList=[]:=by simpa using h2.1
 have:TD P t d:=⟨h5⟩
 rw[show P.types.size+Made.depth=(P.types.size+99)+1 from rfl]
 generalize P.types.size+99=n
 simp only[method,bind_eq,au,bind_assoc,dJ h3,h4,hp,follow,bind_pure,h2.2,receiverAt,aC]
 cases d <;>first | (simp at h6;done) | (simp only[Place.get,au,bind_pure];exact H)⟩

theorem eq_nil{P:Program}{t:TypeId}{ms:Array (String×TypeId)}[TD P t (.interface ms)]{h:Hp}{F:ah}{β:Type}{f:Bool→Sem β}{Q:β→ah→Prop}(d:Nat):tr P h ((Op.equalIn (d+1) t .nilIface .nilIface).bind f) F Q=tr P h (f true) F Q:=by
 simp only[Op.equalIn,bind_eq,au,bind_assoc,bind_pure,aC]
theorem ZL{P:Program}{t t₁:TypeId}{u:Value}{ms:Array (String×TypeId)}[TD P t (.interface ms)]{h:Hp}{F:ah}{β:Type}{f:Bool→Sem β}{Q:β→ah→Prop}(d:Nat):tr P h ((Op.equalIn (d+1) t (.iface t₁ u) .nilIface).bind f) F Q=tr P h (f false) F Q:=by
 simp only[Op.equalIn,bind_eq,au,bind_assoc,bind_pure,aC]
theorem CU(t:TypeId)(a b:Value):∃d,Op.equal t a b=Op.equalIn (d+1) t a b:=⟨9999,rfl⟩

section
variable{x:Cx}{Q:Post}{ρ:Env}{ds:List Deferred}{F:ah}{ops:Array Oper}{S:ah→Prop}{i:Nat}{rest:List Nat}{o:Oper}{v:Value}{d:Tmp}{ty:TypeId}{pos:String}{bK:Array Edge}{g:Option (Nat×Bool)}{L:ah}
theorem abK{t t':TypeId}{ms:Array (String×TypeId)}{y:Operand}(ho:o.op= .binOp .eql t y (.const .nilIface) t')[TD x.P t (.interface ms)](hy:ev ρ y=some .nilIface):Yv x S ρ o (.bool true):=fun e he F hF h' hE=>by
 have hc:e (.const .nilIface)= .nilIface:=he _ _ rfl
 have hg:eqGuard .eql t y (.const .nilIface) .nilIface .nilIface= .pure ():=by
  simp[eqGuard,au]
 obtain⟨dd,hdd⟩:=CU t .nilIface .nilIface
 simp only[execOp,ho,he y _ hy,hc,hg,binOp,hdd,bind_eq,au,bind_assoc,bind_pure,eq_nil]
 exact⟨rfl,rfl⟩
theorem Xz{t t' t₁:TypeId}{u:Value}{ms:Array (String×TypeId)}{y:Operand}(ho:o.op= .binOp .eql t y (.const .nilIface) t')[TD x.P t (.interface ms)](hy:ev ρ y=some (.iface t₁ u)):Yv x S ρ o (.bool false):=fun e he F hF h' hE=>by
 have hc:e (.const .nilIface)= .nilIface:=he _ _ rfl
 have hg:eqGuard .eql t y (.const .nilIface) (.iface t₁ u) .nilIface= .pure ():=by
  simp[eqGuard,au]
 obtain⟨dd,hdd⟩:=CU t (.iface t₁ u) .nilIface
 simp only[execOp,ho,he y _ hy,hc,hg,binOp,hdd,bind_eq,au,bind_assoc,bind_pure,ZL]
 exact⟨rfl,rfl⟩
variable{args:List Operand}{ts:Array TypeId}{vs:List Value}{y:Operand}{name:String}{t:TypeId}{u r:Value}{f:FuncId}
end
end Go.aS

/- Functions of the library without a body: asked of the program's tables. Conditions: none; over any program. -/
namespace Go.aS
def J_{α:Type}(P:Program):Sem α→Option α
 | .pure a=>some a
 | .program k=>J_ P (k P)
 | _=>none
theorem oU{α:Type}{P:Program}{h:Hp}:∀{s:Sem α} {a:α} {F:ah} {Q:α→ah→Prop},J_ P s=some a→Q a F→tr P h s F Q
 | .pure b,a,F,Q,e,H=>by simp only[J_,Option.some.injEq]at e;subst e;exact H
 | .program k,a,F,Q,e,H=>oU (s:=k P) e H
 | .load ..,_,_,_,e,_=>by cases e
 | .store ..,_,_,_,e,_=>by cases e
 | .new ..,_,_,_,e,_=>by cases e
 | .shape ..,_,_,_,e,_=>by cases e
 | .freeze ..,_,_,_,e,_=>by cases e
 | .frozen ..,_,_,_,e,_=>by cases e
 | .getObj ..,_,_,_,e,_=>by cases e
 | .setObj ..,_,_,_,e,_=>by cases e
 | .choose ..,_,_,_,e,_=>by cases e
 | .sys ..,_,_,_,e,_=>by cases e
 | .mark ..,_,_,_,e,_=>by cases e
 | .halt _,_,_,_,e,_=>by cases e

class XF(P:Program)(f:FuncId)(e:outParam (Array Value→Sem Value)):Prop where
 out:∃fn,P.funcs[f]? =some fn∧(fn.name== "runtime.NumGoroutine")=false∧fn.body.isNone=true∧(Extern.findNext fn).isNone=true∧Extern.find fn=some e

theorem PI{P:Program}{main:Side}{h:Hp}{F:ah}{f:FuncId}{e:Array Value→Sem Value}[i:XF P f e]{args:Array Value}{R:Value→ah→Prop}(H:tr P h (e args) F R):tr P h (callFunc f args) F (ni P main h R):=by
 obtain⟨fn,h1,h2,h3,h4,h5⟩:=i.out
 have h4':Extern.findNext fn=none:=by simpa using h4
 simp only[callFunc,bind_eq,au,l7,h1,h2,h3,h4',h5,Bool.false_eq_true,if_false,if_true]
 refine⟨rfl,?_⟩
 show tr P h ((e args).bind fun v=>.pure (Next.value v)) F (ni P main h R)
 exact bJ (lM H fun v F' r=>r)

section
variable{x:Cx}{Q:Post}{ρ:Env}{ds:List Deferred}{F:ah}{ops:Array Oper}{i:Nat}{rest:List Nat}{d:Tmp}{ty:TypeId}{pos:String}{bK:Array Edge}{g:Option (Nat×Bool)}
variable{args:List Operand}{ts:Array TypeId}{vs:List Value}{f:FuncId}{e:Array Value→Sem Value}{y:Operand}{name:String}{t:TypeId}{u r u':Value}
theorem cx{R:Value→ah→Prop}(H:∀h',Ext x.h h'→tr x.P h' (e vs.toArray) F R)(K:∀v F',R v F'→Ops x ops rest Q ((d,v)::ρ) ds F')(ho:cO ops.toList i=some ⟨some d,.call ⟨.value (.func f),args.toArray,ts⟩,ty,pos,bK,g⟩:=by rfl)[XF x.P f e](hv:evs ρ args=some vs:=by rfl)
  (hw:want ops ρ ⟨some d,.call ⟨.value (.func f),args.toArray,ts⟩,ty,pos,bK,g⟩:=by first | exact wn | exact ak rfl rfl rfl) (hd:Nat.blt d x.n=true:=by rfl):Ops x ops (i::rest) Q ρ ds F:=
 Ops.eff (o:=⟨some d,.call ⟨.value (.func f),args.toArray,ts⟩,ty,pos,bK,g⟩) (fun ee he=>⟨F,[],by simp,fun h' e1 e2=>by
  have e3:ee (.func f)= .func (.func f) #[] #[]:=he _ _ rfl
  simp only[execOp,resolve,Deferred.ofValue,e3,bind_eq,au,bind_pure,invoke,List.map_toArray,lN he hv,List.append_toArray,List.nil_append,List.append_nil]
  exact PI (lM (H h' e1) fun v F' q=>⟨F',by simp,K v F' q⟩)⟩) (aU ho) hw hd rfl
theorem cxp(hp:J_ x.P (e vs.toArray)=some r)(K:Ops x ops rest Q ((d,r)::ρ) ds F)(ho:cO ops.toList i=some ⟨some d,.call ⟨.value (.func f),args.toArray,ts⟩,ty,pos,bK,g⟩:=by rfl)[XF x.P f e](hv:evs ρ args=some vs:=by rfl)
  (hw:want ops ρ ⟨some d,.call ⟨.value (.func f),args.toArray,ts⟩,ty,pos,bK,g⟩:=by first | exact wn | exact ak rfl rfl rfl) (hd:Nat.blt d x.n=true:=by rfl):Ops x ops (i::rest) Q ρ ds F:=
 cx (R:=fun v F'=>v=r∧F'=F) (fun h' _=>oU hp ⟨rfl,rfl⟩) (fun v F' ⟨h1,h2⟩=>by subst h1 h2;exact K) ho hv hw hd
theorem cix(hm:J_ x.P (method (x.P.types.size+Made.depth) t u name)=some (f,u'))(hp:J_ x.P (e (u'::vs).toArray)=some r)(K:Ops x ops rest Q ((d,r)::ρ) ds F)(ho:cO ops.toList i=some ⟨some d,.call ⟨.invoke y name,args.toArray,ts⟩,ty,pos,bK,g⟩:=by rfl)[XF x.P f e](hy:ev ρ y=some (.iface t u):=by rfl)(hv:evs ρ args=some vs:=by rfl)
  (hw:want ops ρ ⟨some d,.call ⟨.invoke y name,args.toArray,ts⟩,ty,pos,bK,g⟩:=by first | exact wn | exact ak rfl rfl rfl) (hd:Nat.blt d x.n=true:=by rfl):Ops x ops (i::rest) Q ρ ds F:=
 Ops.eff (o:=⟨some d,.call ⟨.invoke y name,args.toArray,ts⟩,ty,pos,bK,g⟩) (fun ee he=>⟨F,[],by simp,fun h' e1 e2=>by
  have e3:((#[Value.iface t u]++vs.toArray)[0]? :Option Value)=some (.iface t u):=by simp
  have e4:(#[Value.iface t u]++vs.toArray).extract 1 (#[Value.iface t u]++vs.toArray).size=vs.toArray:=by
   apply Array.ext'
   simp
  simp only[execOp,resolve,he y _ hy,bind_eq,au,bind_pure,List.map_toArray,lN he hv,invoke,e3,e4,callMethod,l7]
  refine bJ (oU hm ?_)
  have e5: #[u']++vs.toArray=(u'::vs).toArray:=by simp
  simp only[e5]
  exact PI (oU hp ⟨F,by simp,K⟩)⟩) (aU ho) hw hd rfl
end
end Go.aS

/- Two answering operations in an open order. Conditions: none; over any program. -/
namespace Go.aS
section
variable{x:Cx}{Q:Post}{ρ:Env}{ds:List Deferred}{F:ah}{ops:Array Oper}{d:Tmp}{ty:TypeId}{pos:String}{bK:Array Edge}{g:Option (Nat×Bool)}
variable{args:List Operand}{ts:Array TypeId}{vs:List Value}{y:Operand}{name:String}{t:TypeId}{u r:Value}{f:FuncId}
def An(x:Cx)(ρ:Env)(o:Oper)(F:ah)(u:Value):Prop:=∀R:Value→ah→Prop,(∀A,Shut A→R u (A++F))→Ef x ρ o F R
end
end Go.aS

/- A loop over a function that may be left: what is owned then is told apart. Conditions: none; over any program. -/
namespace Go.aS
theorem Tc.fn{P:Program}{main:Side}{h:Hp}{ds:List Deferred}{F A:ah}{U:ah→ah}{K R:ah→Prop}{f:FuncId}[FB P f]{cap:Array Value}(hs:Seg A F U)(H:∀h',Ext h h'→fF (U []) h'→Y8 P main f cap h' A R)(k:∀A',R A'→Tc P main h ds (A'++U []) K):Tc P main h ({target:=.fn (.func f) cap,args:= #[]}::ds) F K:=by
 obtain⟨fn,h1,h2,h3⟩:=FB.out (inferInstance:FB P f)
 show tr P h (callFunc f (#[]++cap)) F _
 simp only[callFunc,bind_eq,au,l7,h1,h2,h3,Bool.false_eq_true,if_false,Array.empty_append]
 exact⟨f,cap,rfl,A,U [],hs.perm.1,fun h' e1 e2=>(H h' e1 e2).mono fun A' r=>k A' r⟩
theorem X6{P:Program}{main:Side}{fn:Func}{h:Hp}{R':Value→ah→Prop}{e:Exit}{ρ:Env}{ds:List Deferred}{F A:ah}{U:ah→ah}{R:ah→Prop}{f:FuncId}[FB P f]{cap:Array Value}(hs:Seg A F U)(H:∀h',Ext h h'→fF (U []) h'→Y8 P main f cap h' A R)(k:∀A',R A'→leave P main fn h R' e ρ ds (A'++U []))(he:e= .ret∨e= .normal:=by first | exact .inl rfl | exact .inr rfl):leave P main fn h R' e ρ ({target:=.fn (.func f) cap,args:= #[]}::ds) F:=
 ⟨he,Tc.fn hs H fun A' r=>(k A' r).2⟩
end Go.aS

/- Scopes of labels; slices beside nil. Conditions: none; over any program. -/
namespace Go.aS
theorem adz{P:Program}{t E:TypeId}[TD P t (.slice E)]{h:Hp}{F:ah}{β:Type}{f:Bool→Sem β}{Q:β→ah→Prop}{a:Option Addr}{n c:Nat}(d:Nat):tr P h ((Op.equalIn (d+1) t (.slice a n c) (.slice none 0 0)).bind f) F Q=tr P h (f a.isNone) F Q:=by
 cases a with
 | none=>simp only[Op.equalIn,bind_eq,au,bind_assoc,bind_pure,aC]
 | some a=>simp only[Op.equalIn,bind_eq,au,bind_assoc,bind_pure,aC];rfl
theorem aae{x:Cx}{ρ:Env}{S:ah→Prop}{o:Oper}{t t' E:TypeId}{y:Operand}{a:Option Addr}{n c:Nat}(ho:o.op= .binOp .eql t y (.const (.slice none 0 0)) t')[TD x.P t (.slice E)](hy:ev ρ y=some (.slice a n c)):Yv x S ρ o (.bool a.isNone):=fun e he F hF h' hE=>by
 have hc:e (.const (.slice none 0 0))= .slice none 0 0:=he _ _ rfl
 have hg:eqGuard .eql t y (.const (.slice none 0 0)) (.slice a n c) (.slice none 0 0)= .pure ():=by
  simp[eqGuard,au]
 obtain⟨dd,hdd⟩:=CU t (.slice a n c) (.slice none 0 0)
 simp only[execOp,ho,he y _ hy,hc,hg,binOp,hdd,bind_eq,au,bind_assoc,bind_pure,adz]
 exact⟨rfl,rfl⟩
theorem W.awj{x:Cx}{Q:Post}{ρ:Env}{F:ah}{σ:Type}{c:Code}(Ds:σ→List Deferred)(C:σ→Prop)(E:σ→Env)(D:σ→ah)(μ:σ→Nat)(s₀:σ)(h₀:C s₀)(he:Sub (E s₀) ρ)(hF:Sb (D s₀) F)
  (round:∀s,C s→W x c (thn (fun ρ' ds' F'=>∃s',ds'=Ds s'∧C s'∧μ s'<μ s∧Sub (E s') ρ'∧Sb (D s') F') Q) (E s) (Ds s) (D s)):W x (.loop c) Q ρ (Ds s₀) F:=by
 refine W.env he (W.sb hF ?_)
 intro b k cs Stop tmps hk M h1 h0 h2 h3 h4 h5 hc
 refine .idle rfl (fun _=>SY) ?_
 have key:∀N s,μ s=N→C s→∀tmps hk M,dQ (E s) tmps→tmps.size=x.n→Sat x.h (D s) hk M→(∀e ρ' ds' F' aZ hk' M',Q e ρ' ds' F'→dQ ρ' aZ→aZ.size=x.n→Sat x.h F' hk' M'→Fr M (D s) M' F'→After x.P x.main Stop b k cs e aZ ds' hk' M')→
   Gs x.P x.main Stop (G (bW b tmps (Ds s) (.code c:: .inLoop c::k)) cs) hk M:=by
  intro N
  induction N using Nat.strongRecOn with
  | _ N ih=>
   intro s hN hs tmps hk M h3 h4 h5 hc
   refine round s hs b (.inLoop c::k) cs Stop tmps hk M h1 h0 h2 h3 h4 h5 fun e ρ' ds' F' aZ hk' M' q a1 a2 a3 a4=>?_
   cases e with
   | normal=>
    obtain⟨s',rfl,c1,c2,c3,c4⟩:=q
    exact .idle rfl (fun _=>Lj) (ih (μ s') (hN▸c2) s' rfl c1 aZ hk' M' (a1.sub c3) a2 (a3.sb c4) fun e tC ds₂ kP ng hk₂ jr q₂ e1 e2 e3 e4=>hc e tC ds₂ kP ng hk₂ jr q₂ e1 e2 e3 (a4.trans (e4.sub fun _ y=>c4.mem _ y)))
   | exit id=>exact(hc _ _ _ _ _ _ _ q a1 a2 a3 a4).push rfl (by simp)
   | goto l=>exact(hc _ _ _ _ _ _ _ q a1 a2 a3 a4).push rfl (by simp)
   | ret=>exact(hc _ _ _ _ _ _ _ q a1 a2 a3 a4).push (x:=.inLoop c) rfl (by simp)
   | panic ch=>exact hc _ _ _ _ _ _ _ q a1 a2 a3 a4
   | outgrown=>exact hc _ _ _ _ _ _ _ q a1 a2 a3 a4
 exact key _ s₀ rfl h₀ tmps hk M h3 h4 h5 hc


def auI(l:List Nat):List Deferred:=l.map mark
def as3(l:List Nat):ah:=l.map fun d=>(d,.deferred (some []))
end Go.aS

/- Short forms for senders. Conditions: none; over any program. -/
namespace Go.aS
def Zs(h:Hp)(v:Value):Prop:=∀b off n cap,v= .slice (some ⟨b,off,none⟩) n cap→h.z b
theorem Sl.told{α:Type}{row:α→List Value}{w:Nat}[Rw row w]{h:Hp}{v:Value}{l:List α}(H:Sl h row v l)(hz:Zs h v):Sl (zI h) row v l:=by
 obtain⟨a,cap,rfl,hx⟩:=H
 refine⟨a,cap,rfl,fun hne=>?_⟩
 obtain⟨b,off,cc,E,fz,rfl,hb,hp⟩:=hx hne
 exact⟨b,off,cc,E,fz,rfl,Ji (hz _ _ _ _ rfl) hb rfl,hp⟩
theorem Zs.ext{h h':Hp}{v:Value}(H:Zs h v)(e:Ext h h'):Zs h' v:=fun b off n cap hv=>e.2 b (H b off n cap hv)

theorem Zs.nil{h:Hp}:Zs h (.slice none 0 0):=fun b off n cap e=>by cases e

section
variable{x:Cx}{Q:Post}{ρ:Env}{ds:List Deferred}{ops:Array Oper}{id n:Nat}{y₁ y₂ y₃:Nat×Obj}{G:ah}
theorem W.aJJ(hn:ops.size=n)(H:Any x ops [y₁] n 0 Q ρ ds (y₁::G))[MO x.P]:W x (.region id ops true) Q ρ ds (y₁::G):=W.DR _ hn H
theorem W.Ap(hn:ops.size=n)(H:Any x ops [y₁,y₂] n 0 Q ρ ds (y₁::y₂::G))[MO x.P]:W x (.region id ops true) Q ρ ds (y₁::y₂::G):=W.DR _ hn H
end
section
variable{x:Cx}{Q:Post}{ρ:Env}{ds:List Deferred}{F:ah}{ops:Array Oper}{i:Nat}{d:Tmp}{ty:TypeId}{pos:String}{bK:Array Edge}{g:Option (Nat×Bool)}{L:ah}{vs:List Value}
theorem abl{fuel listed t E s b len:Nat}{z:Value}{zc:Array Value}{parts:List (Nat×Operand)}{cs:Array Value}(H:∀β,Any x ops L fuel (listed||| 2 ^ i) Q ((d,.slice (some ⟨β,0,none⟩) len len)::ρ) ds ((β,.cells cs E (0,0))::F))
  (ho:cO ops.toList i=some ⟨some d,.buildSlice t len parts.toArray,ty,pos,bK,g⟩:=by rfl) (hk:Keeps L F:=by first | exact fun _ h=>h | (repeat(first | exact Keeps.nil | refine Keeps.one (by repeat(first | exact List.Mem.head _ | apply List.Mem.tail)) ?_))) [TD x.P t (.slice E)] [TI x.P E s b z zc] (hv:evs ρ (parts.map (·.2))=some vs:=by rfl) (hls:0<len*s:=by decide) (hl:len*s≤2 ^ 24:=by decide)
  (hf:Instr.fill (fun i=>some (i*s,s)) ((List.range (len*s)).map (fun i=>zc[i % zc.size]!)).toArray ((parts.map (·.1)).zip vs)=some cs:=by rfl)
  (hw:dR ops (look ρ) ⟨some d,.buildSlice t len parts.toArray,ty,pos,bK,g⟩ true:=by first | exact an | exact b_ rfl rfl rfl rfl) (hd:Nat.blt d x.n=true:=by rfl) (hr:qx ops listed=[i]:=by kernel_rfl):Any x ops L (fuel+1) listed Q ρ ds F:=
 Any.eff (o:=⟨some d,.buildSlice t len parts.toArray,ty,pos,bK,g⟩) (DN rfl hv hls hl (by rw[show(Array.range (len*s)).map (zc[· % zc.size]!)=((List.range (len*s)).map (fun i=>zc[i % zc.size]!)).toArray by apply Array.ext';simp];exact hf) fun β _ _=>⟨.inr fun p hp=>List.mem_cons_of_mem _ (hk p hp),H β⟩) hr (aU ho) hw hd rfl
end
end Go.aS
