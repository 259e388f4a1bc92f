/- The checks of plans. Conditions: none; over the given program. (And 10 texts more.) -/
import Derived.Test.YtjohlemgkcpoeaaGreatDoorR07
set_option linter.unusedVariables false
set_option linter.unusedSimpArgs false
set_option linter.unusedSectionVars false
set_option maxRecDepth 100000
set_option maxHeartbeats 4000000

open Go.Proofs.Tryz
namespace Go.jc
variable{F:ah}{P:Program}{R:Value->ah->Prop}{S:ah->Prop}{a b lo:Int}{c:Array Value}{fs:List Fl}{fuel i j listed:Nat}{h:Hp}{ms:Array (String×TypeId)}{o:Oper}{p:List Be}{ss:List St}{t t' adl:TypeId}{u v:Value}{x:Cx}{y:Operand}{β:Type}{Q:β->ah->Prop}{f:Bool->Sem β}{ρ:Env}
theorem Uf(h:dU fs ss=0):fs.length≠0/\fs.length<=2/\ss.length<=4/\kV fs=0/\g_ 0 ss=0:=by
 unfold dU at h;split at h
 ·cases h
 split at h
 ·cases h
 split at h
 ·rename_i h1;exact absurd h h1
 split at h
 ·cases h
 rename_i h1 h2 h3 h4;exact⟨h1,aj,aj,Decidable.byContradiction h3,h⟩
theorem Np:∀{ss:List St} {b:Int} {k:Nat} {s:St},g_ b ss=0->ss[k]? =some s->∃b',kW b' s=0
 | [],_,_,_,_,h=>by simp at h
 | s::ss,b,k,t,h,hk=>by
  simp only[g_]at h;split at h
  ·rename_i h1
   cases k with
   | zero=>simp at hk;subst hk;exact⟨b,h1⟩
   | succ k=>simp at hk;exact Np h hk
  rename_i h1;exact absurd h h1
theorem agb{s:St}(h:kW b s=0):0<=s.day/\s.day<=12/\1<=s.co/\s.co<=6/\0<=s.wa/\s.wa<=3/\b<=s.day:=by
 unfold kW at h;split at h
 ·cases h
 split at h
 ·cases h
 rename_i h1 h2;simp only[outs]at h1;omega
theorem agc{k:Nat}{s:St}(h:dU fs ss=0)(hk:ss[k]? =some s):0<=s.day/\s.day<=12/\1<=s.co/\s.co<=6/\0<=s.wa/\s.wa<=3:=by
 obtain⟨b,hb⟩:=Np (Uf h).2.2.2.2 hk;have:=agb hb;omega

theorem agd(main:aN)(h:Hp)(l:List Be)(vl:Value)(hl:Sl h Be.row vl l)(h4:l.length<=4):Pu aV main TY #[vl] h (jI (oC l)):=by
 refine bG.bH func99 [(0,vl)] ?_;refine d_ ?_;refine aA.new (fun oJ=>?_);refine gI ?_;refine aA.new (fun nP=>?_);refine jk ?_;refine W.loop (σ:=Nat) (fun k=>k<=4) (fun k=>[(5,I k),(3,.pointer (some ⟨nP,0,none⟩)),(2,.pointer (some ⟨oJ,0,none⟩)),(0,vl)]) (fun k=>[(nP,.cells (Hl k) dD (0,0)),(oJ,.cells (Hl 0) dD (0,0))]) (fun k=>4-k) 0 dF iw qE ?_;rintro k hk;refine kJ ?_;refine W.aJ O (fun c6=>?_) (fun c6=>?_)
 ·have h8:(Hl k).size=8:=by simp[Hl,gU];omega
  refine iC ?_
  first | refine b_ (rM rfl rfl rfl) rfl ?_ | refine b_ (kU rfl rfl rfl) rfl ?_
  refine d_ ?_;refine aA.nil<|iE<|fH<|W.region rfl ?_;refine gI ?_;refine⟨O,k+1,aj,aj,iw,?_⟩;rcases(by omega:k=0\/k=1\/k=2\/k=3)with rfl | rfl | rfl | rfl <;>exact qE
 have:k=4:=by omega
 subst this;refine jk ?_;refine b_ (TN O O) O ?_;refine zT ?_;refine oe rfl wn rfl rfl (adb (row:=Be.row) rfl rfl rfl hl aj (by repeat(first | exact At.head | apply At.tail)) (by simp[Hl,gU];omega) ?_);rw[af_ h4];refine gI ?_;have h8:(flat Be.row (oC l)).toArray.size=8:=by simp[gU,TQ h4]
 have h1:lC (flat Be.row (oC l)).toArray.toList=true:=by simpa using sH _
 refine lF ?_;exact AY (hv:=qU nM) ⟨O,eH.cons O (eH.cons O .nil)⟩
theorem Yv.eq(hy:Yv x S ρ o v)(e:v=u):Yv x S ρ o u:=e▸hy

theorem agf(l:List Int):flat bY l=l.map I:=by
 induction l with
 | nil=>rfl
 | cons a l ih=>rw[iW,ih];rfl
theorem Part.O0{l:List Int}(h:Part c 0 (flat bY l))(hj:j<l.length):Part (c.setIfInBounds j (I a)) 0 (flat bY (l.set j a)):=by
 obtain⟨pre,post,h1,h2⟩:=h;have:pre=[]:=jy.1 h2;subst this;refine⟨[],post,?_,O⟩;rw[agf]at h1⊢;simp only[Array.toList_setIfInBounds,h1,List.nil_append,List.map_set];rw[List.set_append_left _ _ (by simpa using hj)]
theorem Part.apE{l:List Int}(h:Part c 0 (flat bY l))(hj:l[j]? =some a):c[0+j*1]? =some (I a):=by
 have:=h.TM (row:=bY) hj 0 dF;simpa[bY]using this

def swp(l:List Int)(j:Nat)(a b:Int):List Int:=(l.set (j+1) a).set j b
def sink(key:Int->Int):Nat->List Int->List Int
 | 0,l=>l
 | j+1,l=>match l[j]?,l[j+1]? with
  | some a,some b=>if key b-key a<0 then sink key j (swp l j a b)else l
  | _,_=>l
def uH(key:Int->Int)(l:List Int):Nat->List Int
 | 0=>l
 | i+1=>sink key (i+1) (uH key l i)
def JQ(key:Int->Int)(l:List Int):List Int:=uH key l (l.length-1)

theorem aaQ{l:List Int}(ha:l[j]? =some a)(hb:l[j+1]? =some b):(swp l j a b).Perm l:=by
 induction l generalizing j with
 | nil=>simp at ha
 | cons x l ih=>
  cases j with
  | zero=>
   simp only[List.getElem?_cons_zero,dY]at ha;subst ha
   cases l with
   | nil=>simp at hb
   | cons y l=>
    simp only[List.getElem?_cons_succ,List.getElem?_cons_zero,dY,Nat.zero_add]at hb;subst hb;exact List.Perm.swap _ _ _
  | succ j=>
   simp only[List.getElem?_cons_succ]at ha hb;exact(ih ha hb).cons x
theorem WV(key:Int->Int):∀(j:Nat) (l:List Int),(sink key j l).Perm l
 | 0,l=>.refl _
 | j+1,l=>by
  unfold sink;split
  ·rename_i a b ha hb;split
   ·exact(WV key j _).trans (aaQ ha hb)
   exact .refl _
  exact .refl _
theorem Ba(key:Int->Int)(l:List Int):∀i,(uH key l i).Perm l
 | 0=>.refl _
 | i+1=>(WV key _ _).trans (Ba key l i)
theorem pI(key:Int->Int)(l:List Int):(JQ key l).Perm l:=Ba key l _
theorem Ug(key:Int->Int)(l:List Int)(i:Nat):(uH key l i).length=l.length:=(Ba key l i).length_eq
theorem aaR(key:Int->Int)(l:List Int)(h:1<=i):uH key l i=sink key i (uH key l (i-1)):=by
 obtain⟨m,rfl⟩:∃m,i=m+1:=⟨i-1,aj⟩
 rfl

structure Ak(p:List Be):Prop where
 len:p.length=4
 ok:∀b∈p,-1<=b.fl/\b.fl<=1/\0<=b.day/\b.day<=17
def dB(p:List Be)(i:Nat):Be:=p.getD i fZ
def bK(p:List Be)(i:Int):Int:=(dB p i.toNat).day
theorem nG(h:Ak p)(hi:i<4):p[i]? =some (dB p i)/\-1<=(dB p i).fl/\(dB p i).fl<=1/\0<=(dB p i).day/\(dB p i).day<=17:=by
 have hl:=h.len;have e:p[i]? =some (dB p i):=by simp[dB,List.getD,jh (show i<p.length by omega)]
 exact⟨e,h.ok _ (dL e)⟩
def yJ(p:List Be)(f:Int):Nat->List Int
 | 0=>[]
 | k+1=>if(dB p k).fl=f then yJ p f k++[(k:Int)]else yJ p f k
theorem Nq{p:List Be}{f:Int}:∀{k:Nat} {a:Int},a∈yJ p f k->0<=a/\a<k
 | 0,_,h=>by simp[yJ]at h
 | k+1,a,h=>by
  unfold yJ at h;split at h
  ·rcases dh.1 h with h | h
   ·have:=Nq h;omega
   have:a=k:=by simpa using h
   omega
  have:=Nq h;omega
theorem Nr{p:List Be}{f:Int}:∀(k:Nat),(yJ p f k).length<=k
 | 0=>by simp[yJ]
 | k+1=>by
  have:=Nr (p:=p) (f:=f) k;unfold yJ;split <;>simp <;>omega
def qZ(p:List Be)(f:Int):List Int:=JQ (bK p) (yJ p f 4)
theorem YX{f:Int}(h:a∈qZ p f):0<=a/\a<4:=Nq ((pI _ _).subset h)
theorem aaS{f:Int}:(qZ p f).length<=4:=by
 rw[qZ,(pI _ _).length_eq];exact Nr 4
theorem aeS(h:Ak p)(hi:i<4):(flat Be.row p).toArray.extract (i*2) (i*2+2)= #[I (dB p i).fl,I (dB p i).day]:=by
 have hP:Part (flat Be.row p).toArray 0 (flat Be.row p):=Part.all _;have:=(hP.afN (nG h hi).1).1;simpa[Be.row]using this
theorem uI(h:Ak p):(flat Be.row p).toArray.size=8:=by simp[gU,h.len]
theorem Q7(h:Ak p)(hi:i<4):(flat Be.row p).toArray[i*2]? =some (I (dB p i).fl)/\(flat Be.row p).toArray[i*2+1]? =some (I (dB p i).day):=by
 have hP:Part (flat Be.row p).toArray 0 (flat Be.row p):=Part.all _;have h0:=hP.TM (nG h hi).1 0 dF;have h1:=hP.TM (nG h hi).1 1 dF;simp only[Nat.zero_add,Nat.add_zero]at h0 h1;exact⟨h0,h1⟩
theorem vN:lC (flat Be.row p).toArray.toList=true:=by simpa using sH _
theorem adn(main:aN)(h:Hp)(key:Int->Int)(xs:List Int)(v cmp:Value)(A P:ah)(hA:Os aX bY v xs A)(hn:xs.length<=1000)
    (hc:∀h',Ext h h'->∀a b,a∈xs->b∈xs->gG aV main cmp [I a,I b] h' P (fun u F=>u=I (key a-key b)/\Sb P F)):
    bG aV main tK #[v,I 0,I xs.length,cmp] h (A++P) (fun _ A'=>∃B,Os aX bY v (JQ key xs) B/\Sb (B++P) A'):=by
  rcases hA with⟨rfl,rfl,yu⟩ | ⟨β,c,cap,J,rfl,rfl,h1,h2,h3,yu⟩
  · refine bG.bH func183 [(0,.slice none 0 0),(1,I 0),(2,I 0),(3,cmp)] ?_;refine jk ?_;refine W.loop (σ:=Unit) (fun _=>True) (fun _=>[(8,I 1),(2,I 0)]) (fun _=>A++P) (fun _=>0) () trivial iw .refl ?_;rintro⟨⟩ -;refine jk ?_;refine W.aJ O (fun WW=>?_) (fun WW=>?_)
    · exact absurd WW dF
    refine lF ?_;exact iQ ⟨A,.inl ⟨O,O,yu⟩,.refl⟩
  refine bG.bH func183 [(0,.slice (some ⟨β,0,none⟩) xs.length cap),(1,I 0),(2,I xs.length),(3,cmp)] ?_;refine jk ?_;refine W.anV (fun(i:Nat) (c1:Array Value)=>1<=i/\(i<=xs.length\/i=1)/\Part c1 0 (flat bY (uH key xs (i-1)))/\c1.size=cap*1) (fun i c1=>[(8,I i),(0,.slice (some ⟨β,0,none⟩) xs.length cap),(1,I 0),(2,I xs.length),(3,cmp)]) (fun i c1=>(β,.cells c1 aX (0,0))::P) (fun i _=>xs.length-i) 1 c ⟨Nat.le_refl _,.inr O,h3,h1⟩ iw (.cons (.left .refl yu)) ?_;rintro i c1 ⟨Vy,hi2,hp,hs⟩;refine jk ?_;refine W.aJ O (fun WW=>?_) (fun WW=>?_)
  · refine gZ ?_;refine W.uq (fun(j:Nat) (c2:Array Value) (ys:List Int)=>j<=i/\ys.Perm xs/\sink key j ys=uH key xs i/\Part c2 0 (flat bY ys)/\c2.size=cap*1) (fun j c2 ys=>[(9,I j),(8,I i),(0,.slice (some ⟨β,0,none⟩) xs.length cap),(1,I 0),(2,I xs.length),(3,cmp)]) (fun j c2 ys=>(β,.cells c2 aX (0,0))::P) (fun j _ _=>j) i c1 (uH key xs (i-1)) ⟨Nat.le_refl _,Ba _ _ _,(aaR key xs Vy).symm,hp,hs⟩ iw .refl ?_;rintro j c2 ys ⟨hj,YC,hsk,hp2,hs2⟩;have hlen:ys.length=xs.length:=YC.length_eq;refine d_ ?_;refine W.kQ [(β,.cells c2 aX (0,0))] (n:=17) O ?_;refine ay 0 ?_;refine ay 1 ?_;refine ay 2 ?_;refine ay 3 ?_;refine Any.ask (d':=21) (fun awP=>?_) (fun awP=>?_)
    · obtain⟨m,rfl⟩:∃m,j=m+1:=⟨j-1,aj⟩
      obtain⟨a,ha,-⟩:=has (show m<ys.length by omega);obtain⟨b,hb,-⟩:=has (show m+1<ys.length by omega);have hca:=hp2.apE ha;have X6:=hp2.apE hb;have hma:a∈xs:=YC.subset (dL ha);have qJ:b∈xs:=YC.subset (dL hb);refine aq (i:=4) (xO O O) O (bD O O O O) O O ?_;refine aq (i:=5) (xO O O) O (bD O O O O) O O ?_;refine aq (i:=6) (xO O O) O (bD O O O O) O O ?_
      first | refine aq (i:=7) (yix rfl rfl rfl) rfl (bD rfl rfl rfl rfl) rfl rfl ?_ | refine aq (i:=7) (ZX rfl rfl rfl) rfl (bD rfl rfl rfl rfl) rfl rfl ?_
      refine aq (i:=8) (CG O O) O (bD O O O O) O O ?_;refine aq (i:=9) (xO O O) O (bD O O O O) O O ?_;refine aq (i:=10) (xO O O) O (bD O O O O) O O ?_;refine aq (i:=11) (Yv.eq (Vr O O O) (show I _=I ((m:Nat):Int) by congr 1;omega)) O (bD O O O O) O O ?_
      first | refine aq (i:=12) (yix rfl rfl rfl) rfl (bD rfl rfl rfl rfl) rfl rfl ?_ | refine aq (i:=12) (ZX rfl rfl rfl) rfl (bD rfl rfl rfl rfl) rfl rfl ?_
      refine aq (i:=13) (CG O O) O (bD O O O O) O O ?_;refine ae (i:=14) O (bD O O O O) O O (AL (A:=P) (args:=[_,_]) O O O (.tail .all) (fun h' hE hL=>hc h' hE b a qJ hma) (fun v A' hv=>?_));refine⟨.inr (by repeat(first | exact aC.nil | refine aC.one zS ?_)),?_⟩;obtain⟨rfl,awQ⟩:=hv;refine Any.sb (.cons awQ) ?_;refine aq (i:=15) (WG O O O) O (bD O O O O) O O ?_;refine ay 16 ?_;refine az ?_;refine fH ?_;refine W.aJ O (fun c34=>?_) (fun c34=>?_)
      · refine lF ?_;refine W.kQ [] (n:=18) O ?_;refine ay 0 ?_;refine ay 1 ?_;refine ay 2 ?_;refine ay 3 ?_;refine fJ 4 (Yv.eq (Vr O O O) (show I _=I ((m:Nat):Int) by congr 1;omega)) O ?_;refine ay 5 ?_;refine ay 6 ?_;refine fJ 7 (Yv.eq (Vr O O O) (show I _=I ((m:Nat):Int) by congr 1;omega)) O ?_;refine ay 8 ?_;refine ay 10 ?_;refine ay 11 ?_;refine ay 12 ?_;refine a2 (i:=9) (j:=13) O O (CG O O) (CG O O) (CG O O) (CG O O) an an an an O O O O ?_;refine ay 14 ?_;refine ae (i:=15) O an O O (eS O O O ?_);refine⟨.inr (fun _ h=>by cases h),?_⟩;refine ay 16 ?_;refine ae (i:=17) O an O O (eS O O O ?_ (hc:=by rw[Array.size_setIfInBounds];omega));refine⟨.inr (fun _ h=>by cases h),?_⟩;refine az ?_;refine jk ?_;refine⟨O,m,_,swp ys m a b,⟨aj,(aaQ ha hb).trans YC,?_,(hp2.O0 (j:=m+1) (a:=a) aj).O0 (j:=m) (a:=b) (by simp;omega),by simpa using hs2⟩,aj,⟨lk O (show I _=I ((m:Nat):Int) by congr 1;omega),O,O,O,O,O,trivial⟩,.aT (by simp)⟩;rw[<-hsk];simp only[sink,ha,hb];rw[if_pos c34]
      refine iC ?_
      have hys:ys=uH key xs i:=by
        rw[<-hsk]
        first
        | (
           have:j=0:=by omega
           subst this;rfl)
        | (simp only[sink,ha,hb];rw[if_neg c34])
      subst hys;exact⟨O,i+1,c2,⟨aj,.inl aj,hp2,hs2⟩,aj,iw,.refl⟩
    refine ap (i:=4) O O O O O O ?_;refine ap (i:=5) O O O O O O ?_;refine ap (i:=6) O O O O O O ?_;refine ap (i:=7) O O O O O O ?_;refine ap (i:=8) O O O O O O ?_;refine ap (i:=9) O O O O O O ?_;refine ap (i:=10) O O O O O O ?_;refine ap (i:=11) O O O O O O ?_;refine ap (i:=12) O O O O O O ?_;refine ap (i:=13) O O O O O O ?_;refine ap (i:=14) O O O O O O ?_;refine ap (i:=15) O O O O O O ?_;refine ay 16 ?_;refine az ?_;refine fH ?_;refine W.iq ?_;refine iC ?_
    have hys:ys=uH key xs i:=by
      rw[<-hsk]
      first
      | (
         have:j=0:=by omega
         subst this;rfl)
      | (simp only[sink,ha,hb];rw[if_neg c34])
    subst hys;exact⟨O,i+1,c2,⟨aj,.inl aj,hp2,hs2⟩,aj,iw,.refl⟩
  refine lF ?_;refine iQ ⟨[(β,.cells c1 aX (0,0))],.inr ⟨β,c1,cap,[],?_,O,hs,?_,?_,.nil⟩,.refl⟩
  · rw[JQ,Ug]
  · rw[JQ,Ug];exact h2
  have:i-1=xs.length-1:=by omega
  rw[this]at hp;exact hp
theorem agh(main:aN)(h:Hp)(key:Int->Int)(xs:List Int)(v cmp:Value)(A P:ah)(hA:Os aX bY v xs A)(hn:xs.length<=19)
  (hc:∀h',Ext h h'->∀a b,a∈xs->b∈xs->gG aV main cmp [I a,I b] h' P (fun u F=>u=I (key a-key b)/\Sb P F)):
  bG aV main zo #[v,I xs.length,cmp] h (A++P) (fun _ A'=>∃B,Os aX bY v (JQ key xs) B/\Sb (B++P) A'):=by
 refine bG.bH func142 [(0,v),(1,I xs.length),(2,cmp)] ?_;refine oz ?_;refine W.loop (σ:=Unit) (fun _=>True) (fun _=>[(8,I 20),(7,I 0),(6,I 20),(0,v),(1,I xs.length),(2,cmp)]) (fun _=>A++P) (fun _=>0) () trivial iw .refl ?_;rintro⟨⟩ -;refine jk ?_;refine W.aJ O (fun c13=>?_) (fun c13=>?_)
 ·exact absurd c13 aj
 refine iC ?_;refine cga (fun h' hE=>adn _ h' key xs v cmp A P hA aj fun h2 e=>hc h2 (hE.trans e)) (fun _ A' hv=>?_);refine d_ ?_;refine W.loop (σ:=Unit) (fun _=>True) (fun _=>[(6,I 20),(1,I xs.length)]) (fun _=>A') (fun _=>0) () trivial iw .refl ?_;rintro⟨⟩ -;refine jk ?_;refine W.aJ O (fun c30=>?_) (fun c30=>?_)
 ·exact absurd c30 aj
 refine lF ?_;exact iQ hv

theorem JR(main:aN)(h:Hp)(key:Int->Int)(xs:List Int)(v cmp:Value)(A P:ah)(hA:Os aX bY v xs A)(hn:xs.length<=19)
  (hc:∀h',Ext h h'->∀a b,a∈xs->b∈xs->gG aV main cmp [I a,I b] h' P (fun u F=>u=I (key a-key b)/\Sb P F)):
  bG aV main yH #[v,cmp] h (A++P) (fun _ A'=>∃B,Os aX bY v (JQ key xs) B/\Sb (B++P) A'):=by
 obtain⟨a,cap,rfl⟩:=hA.aU;refine bG.bH func93 [(0,.slice a xs.length cap),(1,cmp)] ?_;refine kJ ?_;refine cga (fun h' hE=>agh _ h' key xs _ cmp A P hA hn fun h2 e=>hc h2 (hE.trans e)) (fun _ A' hv=>?_);refine aA.nil ?_;exact iQ hv

theorem apG(main:aN)(h:Hp)(p:List Be)(hp:Ak p)(bp:Nat)(E:TypeId)(fz:Nat×Nat)(hb:h bp=some (.cells (flat Be.row p).toArray E fz))(a b:Int)(ha:0<=a/\a<4)(wz:0<=b/\b<4):
  PuV aV main (.func (.func xk) #[] #[.pointer (some ⟨bp,0,none⟩)]) [I a,I b] h (I (bK p a-bK p b)):=by
 refine gG.o9 (f:=xk) (fi:=[]) (ca:=[.pointer (some ⟨bp,0,none⟩)]) ?_;have h8:(flat Be.row p).toArray.size=8:=by simp[gU,hp.len]
 have pa:=nG hp (i:=a.toNat) aj;have pb:=nG hp (i:=b.toNat) aj;have hP:Part (flat Be.row p).toArray 0 (flat Be.row p):=Part.all _;have la:(flat Be.row p).toArray[0+a.toNat*2+1]? =some (I (bK p a)):=by have:=hP.TM pa.1 1 dF;simpa[Be.row,bK]using this
 have lb:(flat Be.row p).toArray[0+b.toNat*2+1]? =some (I (bK p b)):=by have:=hP.TM pb.1 1 dF;simpa[Be.row,bK]using this
 have da:0<=bK p a/\bK p a<=17:=pa.2.2.2;have db:0<=bK p b/\bK p b<=17:=pb.2.2.2;refine bG.bH func202 [(0,I a),(1,I b),(2,.pointer (some ⟨bp,0,none⟩))] ?_;refine kJ ?_;refine W.jS (n:=10) O ?_;refine ay 0 ?_
 first | refine fJ 1 (rM rfl rfl rfl) rfl ?_ | refine fJ 1 (kU rfl rfl rfl) rfl ?_
 refine ay 2 ?_;refine ay 3 ?_;refine ay 4 ?_
 first | refine fJ 5 (rM rfl rfl rfl) rfl ?_ | refine fJ 5 (kU rfl rfl rfl) rfl ?_
 refine ay 6 ?_;refine ay 7 ?_;refine ay 8 ?_;refine ay 9 ?_;refine az ?_;refine d_ ?_;refine lQ O

abbrev as9(b4 b5:Nat):Value:=.func (.func zu) #[] #[.pointer (some ⟨b4,0,none⟩),.pointer (some ⟨b5,0,none⟩)]
theorem O1(main:aN)(h:Hp)(p:List Be)(hp:Ak p)(f:Int)(b4 b5:Nat)(E4 E5:TypeId)(z4 z5:Nat×Nat)(h4:h b4=some (.cells (flat Be.row p).toArray E4 z4))(h5:h b5=some (.cells #[I f] E5 z5)):Iter aV main (as9 b4 b5) I (qZ p f) h:=by
 intro h' Bc yv YZ σ nx step J K hy s A Y0 hJ;have VX:=Bc.1 _ _ h4;have h5':=Bc.1 _ _ h5;have oH:=uI hp;refine gG.o9 (f:=zu) (fi:=[]) (ca:=[.pointer (some ⟨b4,0,none⟩),.pointer (some ⟨b5,0,none⟩)]) ?_;refine bG.bH func201 [(0,yv),(1,.pointer (some ⟨b4,0,none⟩)),(2,.pointer (some ⟨b5,0,none⟩))] ?_;refine iC ?_;refine W.uq (fun(k:Nat) (v:Value) (S:ah)=>k<=4/\Os aX bY v (yJ p f k) S) (fun k v S=>[(10,I k),(9,jI p),(4,v),(0,yv),(1,.pointer (some ⟨b4,0,none⟩)),(2,.pointer (some ⟨b5,0,none⟩))]) (fun k v S=>S++A) (fun k _ _=>4-k) 0 (.slice none 0 0) [] ⟨Nat.zero_le _,.nil .nil⟩ iw .refl ?_;rintro k v S ⟨hk,hS⟩;refine kJ ?_;refine W.aJ O (fun ZI=>?_) (fun ZI=>?_)
 ·have QH:k<4:=by omega
  have hx:(flat Be.row p).toArray.extract ((k:Int).toNat*2) ((k:Int).toNat*2+2)= #[I (dB p k).fl,I (dB p k).day]:=aeS hp QH;refine jk ?_
  first | refine b_ (QT rfl rfl rfl aj aj (by first | assumption | rfl)) rfl ?_ | refine b_ (L6 rfl rfl rfl aj aj (by first | assumption | rfl)) rfl ?_
  refine aA.new (fun mX=>?_);refine gZ ?_;refine W.aJ O (fun c17=>?_) (fun c17=>?_)
  ·refine gI ?_;refine aA.zZ (cs:= #[I k]) (fun mP=>?_) O;refine oe O wn O O (bV (row:=bY) (l':=[(k:Int)]) O O O hS (.tail (.tail .head)) (fun h2 _ hl=>Sl.mk (hl mP _ (.head _)) O (Part.all [I k])) (by have:=Nr (p:=p) (f:=f) k;simp;omega) dF O (fun v' S' xM=>?_));refine zW rfl rfl rfl<|aA.nil<|iE<|fH<|W.region rfl ?_;refine gI ?_
   first
   | exact⟨rfl,k+1,v',S',⟨aj,by simp only[yJ];rw[if_pos c17];exact xM⟩,aj,iw,qE⟩
   | exact⟨rfl,k+1,v,S,⟨aj,by simp only[yJ];rw[if_neg c17];exact hS⟩,aj,iw,qE⟩
  refine jk ?_
  first
  | exact⟨rfl,k+1,v',S',⟨aj,by simp only[yJ];rw[if_pos c17];exact xM⟩,aj,iw,qE⟩
  | exact⟨rfl,k+1,v,S,⟨aj,by simp only[yJ];rw[if_neg c17];exact hS⟩,aj,iw,qE⟩
 have:k=4:=by omega
 subst this;refine FT ?_;refine cg (.head (A:=S)) (fun h2 hE hL=>bG.sb (B:=S) (by rw[List.append_nil];exact .refl) (JR _ h2 (bK p) _ v _ S [] hS (by have:=Nr (p:=p) (f:=f) 4;omega) fun h3 e a b ha hb=>gG.mono (apG _ h3 p hp b4 E4 z4 (e.1 _ _ (hE.1 _ _ VX)) a b (Nq ha) (Nq hb)) fun _ _ q=>⟨q.1,.nil q.2⟩)) (fun _ S1 hS1=>?_);obtain⟨S2,hS2,bF⟩:=hS1;rw[List.append_nil]at bF;refine aA.sb (bF.app .refl) ?_;have hlen:=aaS (p:=p) (f:=f);obtain⟨a2,JA,rfl⟩:=hS2.aU;change Os aX bY _ (qZ p f) S2 at hS2;refine kR ?_;refine W.uq (fun(k:Nat) (t:σ) (B:ah)=>k<=(qZ p f).length/\J t B/\ZY step s (qZ p f) t ((qZ p f).drop k)) (fun k t B=>[(28,I k),(27,I (qZ p f).length),(26,.slice a2 (qZ p f).length JA),(0,yv)]) (fun k t B=>B++S2) (fun k _ _=>(qZ p f).length-k) 0 s A ⟨Nat.zero_le _,hJ,.zero⟩ iw (.aT dK) ?_;rintro k t B ⟨hk,hB,hr⟩;refine kJ ?_;refine W.aJ O (fun c29=>?_) (fun c29=>?_)
 ·obtain⟨a,ha,yI⟩:=has (show k<(qZ p f).length by omega);rw[yI]at hr;rcases id hS2 with⟨ahX,_,_⟩ | ⟨β,c,cap,J2,hv2,rfl,Y4,ZJ,hP,hJ2⟩
  ·rw[ahX]at ha;simp at ha
  obtain⟨rfl,-⟩:a2=some ⟨β,0,none⟩/\True:=by cases hv2;exact⟨rfl,trivial⟩
  have hca:=hP.apE ha;refine jk ?_;refine b_ (CG O O (.inr fun _ e=>by subst e;simp;exact .inr (.inl ⟨O,O⟩)) hca) O ?_;refine lg ?_;refine cgv .head (fun h2 hE hL=>hy h2 hE t a B (Y0.far hr) hB) (fun r B1 TP=>?_);obtain⟨rfl,B2,pJ,hB2⟩:=TP;refine aA.sb (pJ.app .refl) ?_;refine d_ ?_;refine W.cond O (fun c35=>?_) (fun c35=>?_)
  ·refine kJ ?_;have e:(step t a).2=false:=by simpa using c35
   obtain⟨t',ht⟩:∃t',step t a=(t',false):=⟨(step t a).1,by rw[<-e]⟩
   rw[ht]at hB2;refine iQ ⟨B2,.right .refl hS2.shut,?_⟩;rw[hr.eq];simp only[runs,ht];exact hB2
  refine jk ?_;have e:(step t a).2=true:=by simpa using c35
  obtain⟨t',ht⟩:∃t',step t a=(t',true):=⟨(step t a).1,by rw[<-e]⟩
  rw[ht]at hB2;exact⟨O,k+1,t',B2,⟨aj,hB2,hr.next ht⟩,aj,iw,.refl⟩
 refine lF ?_;refine iQ ⟨B,.right .refl hS2.shut,?_⟩;rw[hr.eq,show k=(qZ p f).length by omega,List.drop_length];exact hB

theorem adp(main:aN)(h:Hp)(p:List Be)(f:Int)(vf vs:Value)(h1:one vf=true)(h2:one vs=true):bG aV main OW #[.agg #[vf,vs],jI p,I f] h [] (fun v A=>∃b4 b5 b3,v=as9 b4 b5/\A=[(b5,.cells #[I f] aX (0,0)),(b4,.cells (flat Be.row p).toArray dD (0,0)),(b3,.cells #[vf,vs] x9 (0,0))]):=by
 refine bG.bH func193 [(0,.agg #[vf,vs]),(1,jI p),(2,I f)] ?_;refine d_ ?_;refine aA.box (fun nP=>?_);refine aA.box (fun mW=>?_);refine aA.box (fun iI=>?_);refine kR ?_;exact iQ ⟨_,_,_,O,O⟩
structure Sp where
 (lo hi:Int)
 deriving DecidableEq
def Sp.row(s:Sp):List Value:=[I s.lo,I s.hi]
instance:Rw Sp.row 2:=⟨fun _=>rfl,fun _=>rfl⟩
abbrev BQ(a b:Int):Int:=IntKind.i64.wrap (a+b)
def bump(d:List Sp)(i:Nat)(b:Bool)(co:Int):List Sp:=match d[i]? with
 | some s=>d.set i ⟨if b then BQ s.lo co else s.lo,BQ s.hi co⟩
 | none=>d
def pK(day lo co:Int):Nat->Nat->List Sp->List Sp
 | 0,_,d=>d
 | m+1,n,d=>if 21<day+n then d else pK day lo co m (n+1) (bump d (day+n).toNat (decide ((n:Int)<lo)) co)
def xq(ss:List St)(i:Int):Int:=(ss.getD i.toNat ⟨0,0,0⟩).co
def jr(fs:List Fl)(f:Int):Fl:=fs.getD f.toNat ⟨0,0,0,0⟩
def Ns:List Sp:=List.replicate 22 ⟨0,0⟩
def mY(fs:List Fl)(ss:List St)(p:List Be)(f:Int):List Sp:=
 (qZ p f).foldl (fun d i=>pK (bK p i) (jr fs f).lo (xq ss i) (jr fs f).hi.toNat 0 d) Ns
theorem Uh{d:List Sp}{b:Bool}{co:Int}:(bump d i b co).length=d.length:=by
 unfold bump;split <;>simp
theorem I4{day lo co:Int}:∀(m n:Nat) (d:List Sp),(pK day lo co m n d).length=d.length
 | 0,_,_=>rfl
 | m+1,n,d=>by
  unfold pK;split
  ·rfl
  rw[I4,Uh]
theorem xu{f:Int}:(mY fs ss p f).length=22:=by
 have:∀(l:List Int) (d:List Sp),(l.foldl (fun d i=>pK (bK p i) (jr fs f).lo (xq ss i) (jr fs f).hi.toNat 0 d) d).length=d.length:=by
  intro l
  induction l with
  | nil=>intro d;rfl
  | cons a l ih=>intro d;rw[List.foldl_cons,ih,I4]
 rw[mY,this];rfl
abbrev aiO(d:List Sp):Value:=.agg (flat Sp.row d).toArray
theorem Nu{d:List Sp}(h:d.length=22):(flat Sp.row d).toArray.size=44:=by simp[gU,h]
variable{s:Sp}
theorem Q8{d:List Sp}(h:d[i]? =some s):(flat Sp.row d).toArray[0+i*2]? =some (I s.lo)/\(flat Sp.row d).toArray[0+i*2+1]? =some (I s.hi):=by
 have hP:Part (flat Sp.row d).toArray 0 (flat Sp.row d):=Part.all _;exact⟨hP.TM h 0 dF,hP.TM h 1 dF⟩
theorem aeT{d:List Sp}(h:d[i]? =some s):(flat Sp.row d).toArray.extract (i*2) (i*2+2)= #[I s.lo,I s.hi]:=by
 have hP:Part (flat Sp.row d).toArray 0 (flat Sp.row d):=Part.all _;have:=(hP.afN h).1;simpa[Sp.row]using this
theorem WX{l:List Value}(h:l[i]? =some v):l.set i v=l:=by
 apply List.ext_getElem?;intro j;rw[List.getElem?_set];split
 ·rename_i e;subst e;rcases bQ i l.length with h' | h'
  ·simp[h',<-h]
  rw[fM h']at h;cases h
 rfl
theorem aaU{d:List Sp}(h:i<d.length):((flat Sp.row d).toArray.setIfInBounds (0+i*2) (I s.lo)).setIfInBounds (0+i*2+1) (I s.hi)=(flat Sp.row (d.set i s)).toArray:=by
 induction d generalizing i with
 | nil=>simp at h
 | cons a d ih=>
  cases i with
  | zero=>simp[iW,Sp.row]
  | succ i=>
   have:=ih (i:=i) (by simpa using h);simp only[List.set_cons_succ,iW];apply Array.ext';have h2:=congrArg Array.toList this;simp only[Array.toList_setIfInBounds,Nat.zero_add]at h2⊢;have e1:(i+1)*2=i*2+2:=by omega
   rw[e1,<-h2];simp[Sp.row]
theorem alR{d:List Sp}{x:Int}(h:d[i]? =some s):(flat Sp.row d).toArray.setIfInBounds (0+i*2+1) (I x)=(flat Sp.row (d.set i ⟨s.lo,x⟩)).toArray:=by
 have hi:i<d.length:=by
  rcases bQ i d.length with h' | h'
  ·exact h'
  rw[fM h']at h;cases h
 rw[<-aaU hi]
 congr 1
 have:=(Q8 h).1;apply Array.ext';simp only[Array.toList_setIfInBounds];have h2:(flat Sp.row d)[0+i*2]? =some (I s.lo):=by simpa using this
 rw[WX h2]
theorem aeU{d:List Sp}{x:Int}(h:d[i]? =some s):(flat Sp.row d).toArray.setIfInBounds (0+i*2+0) (I x)=(flat Sp.row (d.set i ⟨x,s.hi⟩)).toArray:=by
 have hi:i<d.length:=by
  rcases bQ i d.length with h' | h'
  ·exact h'
  rw[fM h']at h;cases h
 rw[<-aaU hi];have:=(Q8 h).2;apply Array.ext';simp only[Array.toList_setIfInBounds]
 have h2:((flat Sp.row d).set (0+i*2) (I x))[0+i*2+1]? =some (I s.hi):=by
  rw[List.getElem?_set_ne aj];simpa using this
 rw[WX h2];rw[Nat.add_zero]

structure dV(fs:List Fl)(ss:List St):Prop where
 nf:1<=fs.length/\fs.length<=2
 ns:ss.length<=4
 fl:∀f∈fs,1<=f.pl/\f.pl<=9/\1<=f.lo/\f.lo<=f.hi/\f.hi<=6/\0<=f.co/\f.co<=9
 st:∀s∈ss,0<=s.day/\s.day<=12/\1<=s.co/\s.co<=6/\0<=s.wa/\s.wa<=5
structure nY(fs:List Fl)(ss:List St)(p:List Be):Prop where
 ok:Ak p
 fl:∀b∈p,b.fl<fs.length
 pad:∀i,ss.length<=i->(dB p i).fl<0
theorem Y5{p:List Be}{f:Int}:∀{k:Nat} {a:Int},a∈yJ p f k->(dB p a.toNat).fl=f
 | 0,_,h=>by simp[yJ]at h
 | k+1,a,h=>by
  unfold yJ at h;split at h
  ·rename_i hk;rcases dh.1 h with h | h
   ·exact Y5 h
   have:a=k:=by simpa using h
   subst this;simpa using hk
  exact Y5 h
theorem alS{f:Int}(h:a∈qZ p f):(dB p a.toNat).fl=f:=Y5 ((pI _ _).subset h)
theorem aeV{f:Int}(hp:nY fs ss p)(hf:0<=f)(h:a∈qZ p f):a.toNat<ss.length:=by
 rcases bQ a.toNat ss.length with h' | h'
 ·exact h'
 have:=hp.pad _ h';rw[alS h]at this;omega

theorem Nv{σ X:Type}{st:σ->X->σ}:∀(xs:List X) (s:σ),(runs (jD st fun _ _=>none) (s,none) xs).1=(xs.foldl st s,none)
 | [],s=>rfl
 | p::xs,s=>by
  simp only[runs,jD,Option.isNone_none];exact Nv xs (st s p)
instance awS:TI aV YV 44 352 (.agg (flat Sp.row Ns).toArray) (flat Sp.row Ns).toArray:=⟨aB,O⟩

theorem WY(main:aN)(h:Hp)(fs:List Fl)(ss:List St)(p:List Be)(f:Int)(vf vs:Value)(hf:Sl h Fl.row vf fs)(hs:Sl h St.row vs ss)(aO:dV fs ss)(hp:nY fs ss p)(hf0:0<=f)(WZ:f<fs.length):Pu aV main Jw #[.agg #[vf,vs],jI p,I f] h (aiO (mY fs ss p f)):=by
 obtain⟨a,cap,rfl⟩:=hf.aU;obtain⟨a',f_,rfl⟩:=hs.aU;obtain⟨fl,CV,-⟩:=has (show f.toNat<fs.length by omega);have hfe:jr fs f=fl:=by simp[jr,List.getD,CV]
 have awT:=aO.fl fl (dL CV);obtain⟨b,off,c,E,fz,rfl,hb,hx,hy,hz⟩:=hf.at CV;have Gq:c[off+f.toNat*4+1]? =some (I fl.lo):=hz 1 dF;have hz2:c[off+f.toNat*4+2]? =some (I fl.hi):=hz 2 dF
 have hsp:c.extract (off+f.toNat*4+1) (off+f.toNat*4+1+2)= #[I fl.lo,I fl.hi]:=by
  apply Array.ext
  ·simp;omega
  intro i h1 h2;simp at h2
  have:c[off+f.toNat*4+1+i]? = #[I fl.lo,I fl.hi][i]? :=by
   rcases(by omega:i=0\/i=1)with rfl | rfl
   ·simpa using Gq
   simpa using hz2
  rw[<-Option.some_inj,<-Array.getElem?_eq_getElem,<-Array.getElem?_eq_getElem,<-this,Array.getElem?_extract];simp;omega
 have oH:=uI hp.ok;refine bG.bH func156 [(0,.agg #[.slice (some ⟨b,off,none⟩) fs.length cap,.slice a' ss.length f_]),(1,jI p),(2,I f)] ?_;refine d_ ?_;refine aA.box (fun nP=>?_);refine aA.box (fun mW=>?_);refine aA.new (fun mX=>?_);refine gI ?_;refine aA.new (fun yc=>?_);refine FT ?_;refine b_ (Qm O O (.inl hb) aj hsp) O ?_;refine aA.new (fun zC=>?_);refine kR ?_;refine c0 (fun h' hE hL=>adp _ h' p f _ _ O O) (fun v A' hv=>?_);obtain⟨b4,b5,b3,rfl,rfl⟩:=hv;refine d_ ?_;refine W.range (σ:=List Sp) (X:=Int) (enc:=I) (xs:=qZ p f) rfl rfl rfl (fun d i=>pK (bK p i) fl.lo (xq ss i) fl.hi.toNat 0 d) (fun _ _=>none) (fun d A=>d.length=22/\A=[(yc,.cells (flat Sp.row d).toArray YV (0,0))]) Ns (.tail (.tail (.tail (.tail .head)))) ⟨rfl,rfl⟩ (fun h' hE hL=>O1 _ h' p hp.ok f b4 b5 _ _ _ _ (hL b4 _ zS) (hL b5 _ zS)) (fun _ _ _ e=>by cases e) ?_ ?_
 ·rintro d i A hi ⟨hd,rfl⟩ l h1 zD hL1;refine W.region rfl<|zW rfl rfl rfl<|aA.nil ?_;refine⟨O,O,fun h0 Bc hL0=>?_⟩;have h8:h0 zC=some (.cells #[I fl.lo,I fl.hi] YU (0,0)):=hL0 _ _ zS;have h4:h0 mW=some (.cells (flat Be.row p).toArray dD (0,0)):=hL0 _ _ zS;have h3:h0 nP=some (.cells #[.slice (some ⟨b,off,none⟩) fs.length cap,.slice a' ss.length f_] x9 (0,0)):=hL0 _ _ zS;have hi4:=YX hi;obtain⟨s,hsi,-⟩:=has (aeV hp hf0 hi);have Gw:xq ss i=s.co:=by simp[xq,List.getD,hsi]
  obtain⟨b2,atb,c2,E2,fz2,rfl,PW,hx2,hy2,hw2⟩:=(hs.ext Bc).at hsi;have hwc:c2[atb+i.toNat*3+1]? =some (I s.co):=hw2 1 dF;have agj:(flat Be.row p).toArray[0+i.toNat*2+1]? =some (I (bK p i)):=by have:=(Q7 hp.ok (i:=i.toNat) aj).2;simpa[bK]using this
  have aAf:i<ss.length:=by have:=aeV hp hf0 hi;omega
  have atc:0<=bK p i/\bK p i<=17:=(nG hp.ok (i:=i.toNat) aj).2.2.2;refine kR ?_;refine W.anV (fun(n:Nat) (d':List Sp)=>n<=fl.hi.toNat/\d'.length=22/\pK (bK p i) fl.lo (xq ss i) (fl.hi.toNat-n) n d'=pK (bK p i) fl.lo (xq ss i) fl.hi.toNat 0 d) (fun n d'=>[(26,I n),(25,I fl.hi),(9,I i),(8,.pointer (some ⟨zC,0,none⟩)),(7,.pointer (some ⟨yc,0,none⟩)),(4,.pointer (some ⟨mW,0,none⟩)),(3,.pointer (some ⟨nP,0,none⟩))]) (fun n d'=>[(yc,.cells (flat Sp.row d').toArray YV (0,0))]) (fun n _=>fl.hi.toNat-n) 0 d ⟨Nat.zero_le _,hd,O⟩ iw .refl ?_;rintro n d' ⟨hn,IK,qN⟩;refine kJ ?_;refine W.aJ O (fun ZH=>?_) (fun ZH=>?_)
  ·have acW:=Nu IK;obtain⟨m,hm⟩:∃m,fl.hi.toNat-n=m+1:=⟨fl.hi.toNat-n-1,aj⟩
   rw[hm]at qN;refine oz ?_
   first | refine b_ (rM rfl rfl rfl) rfl ?_ | refine b_ (kU rfl rfl rfl) rfl ?_
   refine oz ?_;refine W.aJ O (fun c36=>?_) (fun c36=>?_)
   ·refine W.exit<|sG<|AP<|sG<|sG<|CB<|iE ?_
    have e:pK (bK p i) fl.lo (xq ss i) fl.hi.toNat 0 d=d':=by
     rw[<-qN]
     first
     | (simp only[pK];rw[if_pos c36])
     | (rw[show fl.hi.toNat-n=0 by omega];rfl)
    refine⟨O,O,_,⟨(I4 _ _ _).trans hd,O⟩,?_⟩;rw[e];exact .refl
   obtain⟨x,Aq,-⟩:=has (show(bK p i+n).toNat<d'.length by omega);have hxa:=Q8 Aq;have hxl:=hxa.1;have hxh:=hxa.2;refine gI ?_;refine W.kQ [] (n:=15) O ?_;refine ay 0 ?_
   first | refine fJ 1 (rM rfl rfl rfl) rfl ?_ | refine fJ 1 (kU rfl rfl rfl) rfl ?_
   refine ay 2 ?_;refine ay 4 ?_;refine ay 5 ?_;refine ay 6 ?_;refine ay 7 ?_;refine ay 8 ?_;refine ay 9 ?_;refine ay 10 ?_;refine ae (i:=3) O an O O (Ef.YH (CG O O) ?_);refine⟨.inr aiJ,?_⟩;refine ay 11 ?_
   first | refine fJ 12 (rM rfl rfl rfl) rfl ?_ | refine fJ 12 (kU rfl rfl rfl) rfl ?_
   refine ay 13 ?_;refine ae (i:=14) O an O O (eS O O O ?_);refine⟨.inl aB,?_⟩;refine az ?_;refine d_ ?_;rw[alR Aq];refine lg ?_;refine W.aJ O (fun c54=>?_) (fun c54=>?_)
   ·have hx3:(d'.set (bK p i+n).toNat ⟨x.lo,IntKind.i64.wrap (x.hi+s.co)⟩)[(bK p i+n).toNat]? =some ⟨x.lo,IntKind.i64.wrap (x.hi+s.co)⟩:=by rw[List.getElem?_set_self aj]
    have aAg:=Nu (d:=d'.set (bK p i+n).toNat ⟨x.lo,IntKind.i64.wrap (x.hi+s.co)⟩) (by simpa using IK);have aAh:=(Q8 hx3).1;refine W.kQ [] (n:=15) O ?_;refine ay 0 ?_
    first | refine fJ 1 (rM rfl rfl rfl) rfl ?_ | refine fJ 1 (kU rfl rfl rfl) rfl ?_
    refine ay 2 ?_;refine ay 4 ?_;refine ay 5 ?_;refine ay 6 ?_;refine ay 7 ?_;refine ay 8 ?_;refine ay 9 ?_;refine ay 10 ?_;refine ae (i:=3) O an O O (Ef.YH (CG O O) ?_);refine⟨.inr aiJ,?_⟩;refine ay 11 ?_
    first | refine fJ 12 (rM rfl rfl rfl) rfl ?_ | refine fJ 12 (kU rfl rfl rfl) rfl ?_
    refine ay 13 ?_;refine ae (i:=14) O an O O (eS O O O ?_);refine⟨.inl aB,?_⟩;refine az ?_;refine d_ ?_
    try rw[aeU hx3]
    refine lF ?_
    have hb:pK (bK p i) fl.lo (xq ss i) m (n+1) (bump d' (bK p i+n).toNat (decide ((n:Int)<fl.lo)) (xq ss i))=pK (bK p i) fl.lo (xq ss i) fl.hi.toNat 0 d:=by
     rw[<-qN];simp only[pK];rw[if_neg c36]
    have Vf:fl.hi.toNat- (n+1)=m:=by omega
    refine⟨O,n+1,bump d' (bK p i+n).toNat (decide ((n:Int)<fl.lo)) (xq ss i),⟨aj,by rw[Uh];exact IK,by rw[Vf];exact hb⟩,aj,iw,.aT ?_⟩;simp only[bump,Aq,Gw,c54,decide_true,decide_false,if_true,eU,if_false,List.set_set];exact .refl _
   refine gI ?_
   try rw[aeU hx3]
   refine lF ?_
   have hb:pK (bK p i) fl.lo (xq ss i) m (n+1) (bump d' (bK p i+n).toNat (decide ((n:Int)<fl.lo)) (xq ss i))=pK (bK p i) fl.lo (xq ss i) fl.hi.toNat 0 d:=by
    rw[<-qN];simp only[pK];rw[if_neg c36]
   have Vf:fl.hi.toNat- (n+1)=m:=by omega
   refine⟨O,n+1,bump d' (bK p i+n).toNat (decide ((n:Int)<fl.lo)) (xq ss i),⟨aj,by rw[Uh];exact IK,by rw[Vf];exact hb⟩,aj,iw,.aT ?_⟩;simp only[bump,Aq,Gw,c54,decide_true,decide_false,if_true,eU,if_false,List.set_set];exact .refl _
  refine kJ ?_
  have e:pK (bK p i) fl.lo (xq ss i) fl.hi.toNat 0 d=d':=by
   rw[<-qN]
   first
   | (simp only[pK];rw[if_pos c36])
   | (rw[show fl.hi.toNat-n=0 by omega];rfl)
  refine⟨O,O,_,⟨(I4 _ _ _).trans hd,O⟩,?_⟩;rw[e];exact .refl
 intro d e A he hA dd;rw[Nv]at he
 cases he
 obtain⟨hd,rfl⟩:=hA;refine gI ?_;have aAi:=Nu hd;have hon:lC (flat Sp.row (List.foldl (fun d i=>pK (bK p i) fl.lo (xq ss i) fl.hi.toNat 0 d) Ns (qZ p f))).toArray.toList=true:=by simpa using sH _
 refine kJ ?_;refine lvm (hl:=At.head) (AY (hv:=qU nM) ⟨?_,by repeat(first | exact eH.nil | refine eH.cons rfl ?_)⟩);simp only[mY,hfe]
 rfl
abbrev xw:=Option (Bool×Int)
def qy(pl:Int):List Sp->Nat->xw
 | [],_=>none
 | s::r,k=>if pl<s.hi then some (false,(k:Int))else qy pl r (k+1)
def early(late:Int):xw->Bool
 | none=>true
 | some (_,n)=>decide (late<n)
def Dl(co lo day:Int)(s:xw×Int):xw×Int:=
 (if 0<=s.2/\BQ s.2 co<day/\early (BQ s.2 co) s.1=true then some (true,BQ s.2 co)else s.1,max s.2 (day+lo))
variable{fd:xw}
theorem I5{co day u:Int}(h1:0<=u)(h2:IntKind.i64.wrap (u+co)<day)(h3:early (BQ u co) fd=true):Dl co lo day (fd,u)=(some (true,BQ u co),max u (day+lo)):=by
 simp only[Dl];rw[if_pos ⟨h1,h2,h3⟩]
theorem vO{co day u:Int}(h1:¬0<=u):Dl co lo day (fd,u)=(fd,max u (day+lo)):=by
 simp only[Dl];rw[if_neg fun h=>h1 h.1]
theorem vP{co day u:Int}(h1:¬IntKind.i64.wrap (u+co)<day):Dl co lo day (fd,u)=(fd,max u (day+lo)):=by
 simp only[Dl];rw[if_neg fun h=>h1 h.2.1]
theorem vS{co day u n:Int}{c:Bool}(h1:¬IntKind.i64.wrap (u+co)<n):Dl co lo day (some (c,n),u)=(some (c,n),max u (day+lo)):=by
 simp only[Dl];rw[if_neg fun h=>h1 (by simpa[early]using h.2.2)]
theorem EJ{late:Int}(h:fd.isNone=true):early late fd=true:=by
 cases fd with
 | none=>rfl
 | some q=>cases h
theorem EK{u co n:Int}{c:Bool}(h:IntKind.i64.wrap (u+co)<n):early (BQ u co) (some (c,n))=true:=by simpa[early]using h
def Fq(fs:List Fl)(ss:List St)(p:List Be)(f:Int):xw:=
 ((qZ p f).foldl (fun s i=>Dl (jr fs f).co (jr fs f).lo (bK p i) s) (qy (jr fs f).pl (mY fs ss p f) 0,-1)).1
theorem MV.row{name:String}{f:FuncId}(hm:((P.info? t).bind fun i=>i.methods.find? (·.name==name)).map (fun m=>(m.path.toList.isEmpty,m.func))=some (true,some (f,false)))
  (hd:(P.underlying t).map (fun d=>match d with | .pointer _=>false | _=>true)=some true):MV P t name f:=⟨fun h F v Q H=>by
 obtain⟨m,h1,h2⟩:=jR.1 hm;obtain⟨i,h3,h4⟩:=Option.bind_eq_some_iff.1 h1;obtain⟨d,h5,h6⟩:=jR.1 hd;simp only[Prod.mk.injEq]at h2;have hp:m.path.toList=[]:=by simpa using h2.1
 have:TD P t d:=⟨h5⟩
 rw[show P.types.size+Made.depth=(P.types.size+99)+1 from rfl];generalize P.types.size+99=n;simp only[method,bind_eq,au,bind_assoc,iO h3,h4,hp,follow,bind_pure,h2.2,receiverAt,aF]
 cases d <;>first | (simp at h6;done) | (simp only[Place.get,au,bind_pure];exact H)⟩

def awW:TypeDesc->Bool
 | .interface _=>false
 | _=>true
class NI(P:Program)(t:TypeId):Prop where
 out:(P.underlying t).map awW=some true
theorem aiI(ho:o.op= .makeInterface t y)[i:NI x.P t](hy:ev ρ y=some u):Yv x S ρ o (.iface t u):=by
 obtain⟨d,h1,h2⟩:=jR.1 i.out;have:TD x.P t d:=⟨h1⟩
 exact Ye ho (fun ms e=>by subst e;cases h2) hy
theorem eq_nil[TD P t (.interface ms)](d:Nat):tr P h ((Op.equalIn (d+1) t .nilIface .nilIface).bind f) F Q=tr P h (f true) F Q:=by
 simp only[Op.equalIn,bind_eq,au,bind_assoc,bind_pure,aF]
theorem aeW[TD P t (.interface ms)](d:Nat):tr P h ((Op.equalIn (d+1) t (.iface adl u) .nilIface).bind f) F Q=tr P h (f false) F Q:=by
 simp only[Op.equalIn,bind_eq,au,bind_assoc,bind_pure,aF]
theorem zF(t:TypeId)(a b:Value):∃d,Op.equal t a b=Op.equalIn (d+1) t a b:=⟨9999,O⟩

section
variable{x:Cx}{Q:fO}{ρ:Env}{ds:List Deferred}{F:ah}{ops:Array Oper}{S:ah->Prop}{i:Nat}{rest:List Nat}{o:Oper}{v:Value}{d:Tmp}{ty:TypeId}{pos:String}{bW:Array Edge}{g:Option (Nat×Bool)}{L:ah}
theorem aiP(ho:o.op= .binOp .eql t y (.const .nilIface) t')[TD x.P t (.interface ms)](hy:ev ρ y=some .nilIface):Yv x S ρ o (.bool true):=fun e he F hF h' hE=>by
 have hc:e (.const .nilIface)= .nilIface:=he _ _ O
 have hg:eqGuard .eql t y (.const .nilIface) .nilIface .nilIface= .pure ():=by
  simp[eqGuard,au]
 obtain⟨dd,hdd⟩:=zF t .nilIface .nilIface;simp only[execOp,ho,he y _ hy,hc,hg,binOp,hdd,bind_eq,au,bind_assoc,bind_pure,eq_nil];exact⟨O,O⟩
theorem Y6(ho:o.op= .binOp .eql t y (.const .nilIface) t')[TD x.P t (.interface ms)](hy:ev ρ y=some (.iface adl u)):Yv x S ρ o (.bool false):=fun e he F hF h' hE=>by
 have hc:e (.const .nilIface)= .nilIface:=he _ _ O
 have hg:eqGuard .eql t y (.const .nilIface) (.iface adl u) .nilIface= .pure ():=by
  simp[eqGuard,au]
 obtain⟨dd,hdd⟩:=zF t (.iface adl u) .nilIface;simp only[execOp,ho,he y _ hy,hc,hg,binOp,hdd,bind_eq,au,bind_assoc,bind_pure,aeW];exact⟨O,O⟩
theorem alV(ho:o.op= .binOp .neq t y (.const .nilIface) t')[TD x.P t (.interface ms)](hy:ev ρ y=some (.iface adl u)):Yv x S ρ o (.bool true):=fun e he F hF h' hE=>by
 have hc:e (.const .nilIface)= .nilIface:=he _ _ O
 have hg:eqGuard .neq t y (.const .nilIface) (.iface adl u) .nilIface= .pure ():=by
  simp[eqGuard,au]
 obtain⟨dd,hdd⟩:=zF t (.iface adl u) .nilIface;simp only[execOp,ho,he y _ hy,hc,hg,binOp,hdd,bind_eq,au,bind_assoc,bind_pure,aeW];exact⟨O,O⟩
theorem alW(ho:o.op= .binOp .neq t y (.const .nilIface) t')[TD x.P t (.interface ms)](hy:ev ρ y=some .nilIface):Yv x S ρ o (.bool false):=fun e he F hF h' hE=>by
 have hc:e (.const .nilIface)= .nilIface:=he _ _ O
 have hg:eqGuard .neq t y (.const .nilIface) .nilIface .nilIface= .pure ():=by
  simp[eqGuard,au]
 obtain⟨dd,hdd⟩:=zF t .nilIface .nilIface;simp only[execOp,ho,he y _ hy,hc,hg,binOp,hdd,bind_eq,au,bind_assoc,bind_pure,eq_nil];exact⟨O,O⟩

variable{args:List Operand}{ts:Array TypeId}{vs:List Value}{y:Operand}{name:String}{t:TypeId}{u r:Value}{f:FuncId}
theorem O3(ho:o.op= .call ⟨.invoke y name,args.toArray,ts⟩)(hy:ev ρ y=some (.iface t u))[mv:MV x.P t name f][FB x.P f](hv:jv ρ args=some vs)(H:∀h',Ext x.h h'->je F h'->Pu x.P x.main f (u::vs).toArray h' r)(K:∀A,eH A->R r (A++F)):Ef x ρ o F R:=
 ah2 ho hy hv (L8.head (A:=[]) (G:=F)) H fun v A' hv=>by
  obtain⟨rfl,hs⟩:=hv;exact K A' hs
theorem ci(H:∀h',Ext x.h h'->je F h'->Pu x.P x.main f (u::vs).toArray h' r)(K:aA x ops rest Q ((d,r)::ρ) ds F)(ho:dS ops.toList i=some ⟨some d,.call ⟨.invoke y name,args.toArray,ts⟩,ty,pos,bW,g⟩:=by rfl)(hy:ev ρ y=some (.iface t u):=by rfl)[mv:MV x.P t name f][FB x.P f](hv:jv ρ args=some vs:=by rfl)
  (hw:gY ops ρ ⟨some d,.call ⟨.invoke y name,args.toArray,ts⟩,ty,pos,bW,g⟩:=by first | exact wn | exact aI rfl rfl rfl) (hd:Nat.blt d x.n=true:=by rfl):aA x ops (i::rest) Q ρ ds F:=
 aA.Ql (o:=⟨some d,.call ⟨.invoke y name,args.toArray,ts⟩,ty,pos,bW,g⟩) (O3 O hy hv H fun A hs=>aA.sb (Sb.left .refl hs) K) (aK ho) hw hd O
theorem aci(H:∀h',Ext x.h h'->je F h'->Pu x.P x.main f (u::vs).toArray h' r)(K:Any x ops L fuel (listed||| 2 ^ i) Q ((d,r)::ρ) ds F)(hS:lastT ops i=true\/aC L F:=by first | exact .inr (by repeat(first | exact fun _ h=>h | exact fun _ h=>absurd h List.not_mem_nil | apply aC.cons | apply aC.app)) | exact .inl aB)
  (ho:dS ops.toList i=some ⟨some d,.call ⟨.invoke y name,args.toArray,ts⟩,ty,pos,bW,g⟩:=by rfl) (hy:ev ρ y=some (.iface t u):=by rfl) [mv:MV x.P t name f] [FB x.P f] (hv:jv ρ args=some vs:=by rfl)
  (hw:iM ops (look ρ) ⟨some d,.call ⟨.invoke y name,args.toArray,ts⟩,ty,pos,bW,g⟩ true:=by first | exact an | exact bD rfl rfl rfl rfl) (hd:Nat.blt d x.n=true:=by rfl) (hr:rH ops listed=[i]:=by kernel_rfl):Any x ops L (fuel+1) listed Q ρ ds F:=
 Any.Ql (o:=⟨some d,.call ⟨.invoke y name,args.toArray,ts⟩,ty,pos,bW,g⟩) (O3 O hy hv H fun A hs=>⟨hS.imp id fun k p hp=>bZ _ (k p hp),Any.sb (Sb.left .refl hs) K⟩) hr (aK ho) hw hd O
end
instance awX:MV aV adi "muscovado/floor.day" Di:=MV.row aB aB
instance awY:MV aV adk "muscovado/floor.day" Dj:=MV.row aB aB
instance:NI aV adi:=⟨aB⟩
instance:NI aV adk:=⟨aB⟩
instance:NI aV ig:=⟨aB⟩
instance:NI aV fG:=⟨aB⟩
instance:NI aV oG:=⟨aB⟩
instance:NI aV zx:=⟨aB⟩
instance:NI aV QE:=⟨aB⟩
def kY:xw->Value
  | none=>.nilIface
  | some (true,n)=>.iface adk (.agg #[I n])
  | some (false,n)=>.iface adi (.agg #[I n])
theorem adq(f:xw):one (kY f)=true:=by
  rcases f with _ | ⟨_ | _,n⟩ <;>rfl

theorem KQ(main:aN)(h:Hp)(n:Int):Pu aV main Di #[.agg #[I n]] h (I n):=by
  refine bG.bH func247 [(0,.agg #[I n])] ?_;refine d_ ?_;refine aA.box (fun vg=>?_);refine FT ?_;exact lQ O
theorem KR(main:aN)(h:Hp)(n:Int):Pu aV main Dj #[.agg #[I n]] h (I n):=by
  refine bG.bH func248 [(0,.agg #[I n])] ?_;refine d_ ?_;refine aA.box (fun vg=>?_);refine FT ?_;exact lQ O
section
variable{main:aN}{fn:FuncId}{m:Nat}{ro:Option Nat}{h:Hp}{Q:fO}{ρ:Env}{ds:List Deferred}{F:ah}{ops:Array Oper}{i:Nat}{rest:List Nat}{d:Tmp}{ty:TypeId}{pos:String}{bW:Array Edge}{g:Option (Nat×Bool)}{L:ah}{y:Operand}{c:Bool}{n:Int}{ts:Array TypeId}
theorem ate(K:aA ⟨aV,main,fn,m,ro,h⟩ ops rest Q ((d,I n)::ρ) ds F)(ho:dS ops.toList i=some ⟨some d,.call ⟨.invoke y "muscovado/floor.day", #[],ts⟩,ty,pos,bW,g⟩:=by rfl)(hy:ev ρ y=some (kY (some (c,n))):=by rfl)(hw:gY ops ρ ⟨some d,.call ⟨.invoke y "muscovado/floor.day", #[],ts⟩,ty,pos,bW,g⟩:=by first | exact wn | exact aI rfl rfl rfl)(hd:Nat.blt d m=true:=by rfl):aA ⟨aV,main,fn,m,ro,h⟩ ops (i::rest) Q ρ ds F:=by
  cases c with
  | true=>exact ci (args:=[]) (vs:=[]) (fun h' _ _=>KR _ h' n) K ho hy rfl hw hd
  | false=>exact ci (args:=[]) (vs:=[]) (fun h' _ _=>KQ _ h' n) K ho hy rfl hw hd
theorem atf(K:Any ⟨aV,main,fn,m,ro,h⟩ ops L fuel (listed||| 2 ^ i) Q ((d,I n)::ρ) ds F)(hS:lastT ops i=true∨aC L F)(ho:dS ops.toList i=some ⟨some d,.call ⟨.invoke y "muscovado/floor.day", #[],ts⟩,ty,pos,bW,g⟩:=by rfl)(hy:ev ρ y=some (kY (some (c,n))):=by rfl)
    (hw:iM ops (look ρ) ⟨some d,.call ⟨.invoke y "muscovado/floor.day", #[],ts⟩,ty,pos,bW,g⟩ true:=by first | exact an | exact bD rfl rfl rfl rfl) (hd:Nat.blt d m=true:=by rfl) (hr:rH ops listed=[i]:=by kernel_rfl):Any ⟨aV,main,fn,m,ro,h⟩ ops L (fuel+1) listed Q ρ ds F:=by
  cases c with
  | true=>exact aci (args:=[]) (vs:=[]) (fun h' _ _=>KR _ h' n) K hS ho hy rfl hw hd hr
  | false=>exact aci (args:=[]) (vs:=[]) (fun h' _ _=>KQ _ h' n) K hS ho hy rfl hw hd hr
theorem adr{y:Operand}(ho:o.op= .binOp .eql t y (.const .nilIface) t')[TD x.P t (.interface ms)](hy:ev ρ y=some (kY fd)):Yv x S ρ o (.bool fd.isNone):=by
  rcases fd with _ | ⟨_ | _,n⟩
  · exact aiP ho hy
  · exact Y6 ho hy
  exact Y6 ho hy
end
theorem zG{pl:Int}:∀{d:List Sp} {k j:Nat},k<=d.length->(∀i,i<k->∀s,d[i]? =some s->¬pl<s.hi)->qy pl d j=qy pl (d.drop k) (j+k)
  | d,0,j,_,_=>rfl
  | [],k+1,j,h,_=>by simp at h
  | s::d,k+1,j,h,hn=>by
    have h0:=hn 0 aj s O;simp only[qy,if_neg h0,List.drop_succ_cons];rw[zG (k:=k) (j:=j+1) (by simpa using h) fun i hi s hs=>hn (i+1) aj s (by simpa using hs)]
    congr 1;omega

theorem alX(main:aN)(h:Hp)(fs:List Fl)(ss:List St)(p:List Be)(f:Int)(vf vs:Value)(hf:Sl h Fl.row vf fs)(hs:Sl h St.row vs ss)(aO:dV fs ss)(hp:nY fs ss p)(hf0:0<=f)(WZ:f<fs.length):Pu aV main Nj #[.agg #[vf,vs],jI p,I f] h (kY (Fq fs ss p f)):=by
  obtain⟨a,cap,rfl⟩:=hf.aU;obtain⟨a',f_,rfl⟩:=hs.aU;obtain⟨fl,CV,-⟩:=has (show f.toNat<fs.length by omega);have hfe:jr fs f=fl:=by simp[jr,List.getD,CV]
  have awT:=aO.fl fl (dL CV);obtain⟨b,off,c,E,fz,rfl,hb,hx,hy,hz⟩:=hf.at CV;have hz0:c[off+f.toNat*4+0]? =some (I fl.pl):=hz 0 dF;have Gq:c[off+f.toNat*4+1+0]? =some (I fl.lo):=hz 1 dF;have hz3:c[off+f.toNat*4+3]? =some (I fl.co):=hz 3 dF;have oH:=uI hp.ok;obtain⟨D,hD⟩:∃D,D=mY fs ss p f:=⟨_,rfl⟩
  have hDl:D.length=22:=by rw[hD];exact xu
  have hDs:=Nu hDl;have hDo:lC (flat Sp.row D).toArray.toList=true:=by simpa using sH _
  refine bG.bH func153 [(0,.agg #[.slice (some ⟨b,off,none⟩) fs.length cap,.slice a' ss.length f_]),(1,jI p),(2,I f)] ?_;refine d_ ?_;refine aA.box (fun nP=>?_);refine aA.box (fun mW=>?_);refine aA.box (fun iI=>?_);refine jk ?_;refine cp (fun h' hE hL=>WY _ h' fs ss p f _ _ (hf.ext hE) (hs.ext hE) aO hp hf0 WZ) ?_;rw[<-hD];refine aA.new (fun yc=>?_);refine lF ?_;refine aA.new (fun zC=>?_);refine kR ?_;refine W.loop (σ:=Nat) (fun k=>k<=22/\∀i,i<k->∀s,D[i]? =some s->¬fl.pl<s.hi) (fun k=>[(19,I k),(18,aiO D),(8,.pointer (some ⟨zC,0,none⟩)),(7,.pointer (some ⟨yc,0,none⟩)),(5,.pointer (some ⟨iI,0,none⟩)),(4,.pointer (some ⟨mW,0,none⟩)),(3,.pointer (some ⟨nP,0,none⟩))]) (fun _=>[(zC,.cells #[.nilIface] EI (0,0)),(yc,.cells (flat Sp.row D).toArray YV (0,0)),(iI,.cells #[I f] aX (0,0)),(mW,.cells (flat Be.row p).toArray dD (0,0)),(nP,.cells #[.slice (some ⟨b,off,none⟩) fs.length cap,.slice a' ss.length f_] x9 (0,0))]) (fun k=>22-k) 0 ⟨Nat.zero_le _,fun i hi=>absurd hi (Nat.not_lt_zero _)⟩ iw qE ?_;rintro k ⟨hk,hn⟩;refine kJ ?_;refine W.aJ O (fun c20=>?_) (fun c20=>?_)
  · obtain⟨s,hsk,yI⟩:=has (show k<D.length by omega);have hex:(flat Sp.row D).toArray.extract ((k:Int).toNat*2) ((k:Int).toNat*2+2)= #[I s.lo,I s.hi]:=aeT hsk;refine jk ?_
    first | refine b_ (QT rfl rfl rfl aj aj (by first | assumption | rfl)) rfl ?_ | refine b_ (L6 rfl rfl rfl aj aj (by first | assumption | rfl)) rfl ?_
    refine aA.new (fun VY=>?_);refine lF ?_;refine W.jS (n:=10) O ?_;refine ay 0 ?_;refine ay 1 ?_;refine ay 2 ?_;refine ay 3 ?_;refine ay 4 ?_;refine ay 5 ?_;refine ay 6 ?_;refine ay 7 ?_;refine ay 8 ?_;refine ay 9 ?_;refine az ?_;refine fH ?_;refine W.aJ O (fun EL=>?_) (fun EL=>?_)
    · refine lg ?_;refine qj<|W.exit<|AP<|sG<|sG<|CB<|fH<|W.seq ?_;have hff:∃fd,qy fl.pl D 0=fd:=⟨_,O⟩
      obtain⟨fd,hff⟩:=hff;refine W.sb (F':=[(zC,.cells #[kY fd] EI (0,0)),(iI,.cells #[I f] aX (0,0)),(mW,.cells (flat Be.row p).toArray dD (0,0)),(nP,.cells #[.slice (some ⟨b,off,none⟩) fs.length cap,.slice a' ss.length f_] x9 (0,0))]) ?_ ?_
      · first
        | (
           have e:fd=some (false,(k:Int)):=by
             rw[<-hff,zG (k:=k) aj hn,yI];simp only[qy];rw[if_pos EL];simp
           rw[e];exact qE)
        | (
           have e:fd=none:=by
             rw[<-hff,zG (k:=k) aj hn,show k=D.length by omega];simp[qy]
           rw[e];exact qE)
      refine W.region O ?_;refine aA.new (fun zH=>?_);refine kR ?_;refine c0 (fun h' hE hL=>adp _ h' p f _ _ O O) (fun v A' hv=>?_);obtain⟨b4,b5,b3,rfl,rfl⟩:=hv;refine d_ ?_;refine W.range (σ:=xw×Int) (X:=Int) (enc:=I) (xs:=qZ p f) rfl rfl rfl (fun s i=>Dl fl.co fl.lo (bK p i) s) (fun _ _=>none) (fun s A=>A=[(zH,.cells #[I s.2] aX (0,0)),(zC,.cells #[kY s.1] EI (0,0))]) (fd,-1) (A₀:=[(zH,.cells #[I (-1)] aX (0,0)),(zC,.cells #[kY fd] EI (0,0))]) (.tail (.tail (.tail .head))) rfl (fun h' hE hL=>O1 _ h' p hp.ok f b4 b5 _ _ _ _ (hL b4 _ zS) (hL b5 _ zS)) (fun _ _ _ e=>by cases e) ?_ ?_
      · rintro⟨VZ,u⟩ i A hi rfl l h1- -;dsimp only;refine W.region rfl<|zW rfl rfl rfl<|aA.nil ?_;refine⟨O,O,fun h1 zD hL1=>?_⟩;have h5':h1 iI=some (.cells #[I f] aX (0,0)):=hL1 _ _ zS;have VX:h1 mW=some (.cells (flat Be.row p).toArray dD (0,0)):=hL1 _ _ zS;have h3':h1 nP=some (.cells #[.slice (some ⟨b,off,none⟩) fs.length cap,.slice a' ss.length f_] x9 (0,0)):=hL1 _ _ zS;have wz:h1 b=some (.cells c E fz):=zD.1 _ _ hb;clear hL1 zD;have hi4:=YX hi;have agj:(flat Be.row p).toArray[0+i.toNat*2+1]? =some (I (bK p i)):=by have:=(Q7 hp.ok (i:=i.toNat) aj).2;simpa[bK]using this
        have atc:0<=bK p i/\bK p i<=17:=(nG hp.ok (i:=i.toNat) aj).2.2.2;refine gI ?_;refine W.jS (n:=10) O ?_;refine ay 0 ?_;refine ay 1 ?_;refine ay 2 ?_;refine ay 3 ?_;refine ay 4 ?_;refine ay 5 ?_;refine ay 6 ?_;refine ay 7 ?_;refine ay 8 ?_;refine ay 9 ?_;refine az ?_;refine lg ?_;refine aA.ask (fun Dn=>?_) (fun Dn=>?_)
        · refine zT ?_
          first | refine oq (rM rfl rfl rfl) rfl (aI rfl rfl rfl) rfl rfl ?_ | refine oq (kU rfl rfl rfl) rfl (aI rfl rfl rfl) rfl rfl ?_
          refine lg ?_;refine aA.ask (fun vT=>?_) (fun vT=>?_)
          · refine zT ?_;refine oq (adr O O) O (aI O O O) O O ?_;refine zT ?_;refine aA.aiL (fun EM=>?_) (fun EM=>?_)
            · refine jk ?_;refine W.kG ?_
              first
              | have hea:early (BQ u fl.co) VZ=true:=EJ EM
              | have hea:early (BQ u fl.co) (some (cc,n1))=true:=EK c70
              refine lg ?_;refine W.jS (n:=16) O ?_;refine ay 0 ?_;refine ay 1 ?_
              first | refine fJ 2 (rM rfl rfl rfl) rfl ?_ | refine fJ 2 (kU rfl rfl rfl) rfl ?_
              refine ay 3 ?_;refine ay 4 ?_;refine ay 5 ?_;refine ay 6 ?_;refine ay 7 ?_;refine ay 8 ?_;refine ay 9 ?_;refine ay 10 ?_;refine ay 11 ?_;refine ay 12 ?_;refine ay 13 ?_;refine ay 14 ?_;refine ae (i:=15) O an O O (eS O O O ?_);refine⟨.inl aB,?_⟩;refine az ?_;refine iE ?_;refine⟨O,O,_,O,?_⟩;have e:=I5 (lo:=fl.lo) Dn vT hea;rw[e];exact qE
            obtain⟨⟨cc,n1⟩,rfl⟩:∃q,VZ=some q:=by
              cases VZ with
              | none=>simp at EM
              | some q=>exact⟨q,rfl⟩
            refine d_ ?_;refine ate ?_;refine lF ?_;refine W.aJ O (fun c70=>?_) (fun c70=>?_)
            · first
              | have hea:early (BQ u fl.co) VZ=true:=EJ EM
              | have hea:early (BQ u fl.co) (some (cc,n1))=true:=EK c70
              refine lg ?_;refine W.jS (n:=16) O ?_;refine ay 0 ?_;refine ay 1 ?_
              first | refine fJ 2 (rM rfl rfl rfl) rfl ?_ | refine fJ 2 (kU rfl rfl rfl) rfl ?_
              refine ay 3 ?_;refine ay 4 ?_;refine ay 5 ?_;refine ay 6 ?_;refine ay 7 ?_;refine ay 8 ?_;refine ay 9 ?_;refine ay 10 ?_;refine ay 11 ?_;refine ay 12 ?_;refine ay 13 ?_;refine ay 14 ?_;refine ae (i:=15) O an O O (eS O O O ?_);refine⟨.inl aB,?_⟩;refine az ?_;refine iE ?_;refine⟨O,O,_,O,?_⟩;have e:=I5 (lo:=fl.lo) Dn vT hea;rw[e];exact qE
            refine d_ ?_;refine W.jS (n:=16) O ?_;refine ay 0 ?_;refine ay 1 ?_
            first | refine fJ 2 (rM rfl rfl rfl) rfl ?_ | refine fJ 2 (kU rfl rfl rfl) rfl ?_
            refine ay 3 ?_;refine ay 4 ?_;refine ay 5 ?_;refine ay 6 ?_;refine ay 7 ?_;refine ay 8 ?_;refine ay 9 ?_;refine ay 10 ?_;refine ay 11 ?_;refine ay 12 ?_;refine ay 13 ?_;refine ay 14 ?_;refine ae (i:=15) O an O O (eS O O O ?_);refine⟨.inl aB,?_⟩;refine az ?_;refine iE ?_;refine⟨O,O,_,O,?_⟩
            first
            | (
               have e:=vO (co:=fl.co) (lo:=fl.lo) (day:=bK p i) (fd:=VZ) Dn;rw[e];exact qE)
            | (
               have e:=vP (lo:=fl.lo) (fd:=VZ) vT;rw[e];exact qE)
            | (
               have e:=vS (lo:=fl.lo) (day:=bK p i) (c:=cc) c70;rw[e];exact qE)
          refine gI ?_;refine aA.noU ?_;refine aA.noU ?_;refine aA.noU ?_;refine aA.noU ?_;refine gI ?_;refine W.iq ?_;refine d_ ?_;refine W.jS (n:=16) O ?_;refine ay 0 ?_;refine ay 1 ?_
          first | refine fJ 2 (rM rfl rfl rfl) rfl ?_ | refine fJ 2 (kU rfl rfl rfl) rfl ?_
          refine ay 3 ?_;refine ay 4 ?_;refine ay 5 ?_;refine ay 6 ?_;refine ay 7 ?_;refine ay 8 ?_;refine ay 9 ?_;refine ay 10 ?_;refine ay 11 ?_;refine ay 12 ?_;refine ay 13 ?_;refine ay 14 ?_;refine ae (i:=15) O an O O (eS O O O ?_);refine⟨.inl aB,?_⟩;refine az ?_;refine iE ?_;refine⟨O,O,_,O,?_⟩
          first
          | (
             have e:=vO (co:=fl.co) (lo:=fl.lo) (day:=bK p i) (fd:=VZ) Dn;rw[e];exact qE)
          | (
             have e:=vP (lo:=fl.lo) (fd:=VZ) vT;rw[e];exact qE)
          | (
             have e:=vS (lo:=fl.lo) (day:=bK p i) (c:=cc) c70;rw[e];exact qE)
        refine iC ?_;refine aA.noU ?_;refine aA.noU ?_;refine aA.noU ?_;refine aA.noU ?_;refine gI ?_;refine W.iq ?_;refine d_ ?_;refine W.jS (n:=16) O ?_;refine ay 0 ?_;refine ay 1 ?_
        first | refine fJ 2 (rM rfl rfl rfl) rfl ?_ | refine fJ 2 (kU rfl rfl rfl) rfl ?_
        refine ay 3 ?_;refine ay 4 ?_;refine ay 5 ?_;refine ay 6 ?_;refine ay 7 ?_;refine ay 8 ?_;refine ay 9 ?_;refine ay 10 ?_;refine ay 11 ?_;refine ay 12 ?_;refine ay 13 ?_;refine ay 14 ?_;refine ae (i:=15) O an O O (eS O O O ?_);refine⟨.inl aB,?_⟩;refine az ?_;refine iE ?_;refine⟨O,O,_,O,?_⟩
        first
        | (
           have e:=vO (co:=fl.co) (lo:=fl.lo) (day:=bK p i) (fd:=VZ) Dn;rw[e];exact qE)
        | (
           have e:=vP (lo:=fl.lo) (fd:=VZ) vT;rw[e];exact qE)
        | (
           have e:=vS (lo:=fl.lo) (day:=bK p i) (c:=cc) c70;rw[e];exact qE)
      intro s e A he hA dd;rw[Nv]at he
      cases he
      subst hA;refine kR ?_;refine lvm (hl:=At.head) (lQ ?_);simp only[Fq,hfe,<-hD,hff]
      rfl
    refine jk ?_;refine⟨O,k+1,⟨aj,fun i hi s' xK=>?_⟩,aj,iw,qE⟩;rcases(by omega:i<k\/i=k)with hi | rfl
    · exact hn i hi s' xK
    rw[hsk]at xK;cases xK;exact EL
  refine lg ?_;have hff:∃fd,qy fl.pl D 0=fd:=⟨_,O⟩
  obtain⟨fd,hff⟩:=hff;refine W.sb (F':=[(zC,.cells #[kY fd] EI (0,0)),(iI,.cells #[I f] aX (0,0)),(mW,.cells (flat Be.row p).toArray dD (0,0)),(nP,.cells #[.slice (some ⟨b,off,none⟩) fs.length cap,.slice a' ss.length f_] x9 (0,0))]) ?_ ?_
  · first
    | (
       have e:fd=some (false,(k:Int)):=by
         rw[<-hff,zG (k:=k) aj hn,yI];simp only[qy];rw[if_pos EL];simp
       rw[e];exact qE)
    | (
       have e:fd=none:=by
         rw[<-hff,zG (k:=k) aj hn,show k=D.length by omega];simp[qy]
       rw[e];exact qE)
  refine W.region O ?_;refine aA.new (fun zH=>?_);refine kR ?_;refine c0 (fun h' hE hL=>adp _ h' p f _ _ O O) (fun v A' hv=>?_);obtain⟨b4,b5,b3,rfl,rfl⟩:=hv;refine d_ ?_;refine W.range (σ:=xw×Int) (X:=Int) (enc:=I) (xs:=qZ p f) rfl rfl rfl (fun s i=>Dl fl.co fl.lo (bK p i) s) (fun _ _=>none) (fun s A=>A=[(zH,.cells #[I s.2] aX (0,0)),(zC,.cells #[kY s.1] EI (0,0))]) (fd,-1) (A₀:=[(zH,.cells #[I (-1)] aX (0,0)),(zC,.cells #[kY fd] EI (0,0))]) (.tail (.tail (.tail .head))) rfl (fun h' hE hL=>O1 _ h' p hp.ok f b4 b5 _ _ _ _ (hL b4 _ zS) (hL b5 _ zS)) (fun _ _ _ e=>by cases e) ?_ ?_
  · rintro⟨VZ,u⟩ i A hi rfl l h1- -;dsimp only;refine W.region rfl<|zW rfl rfl rfl<|aA.nil ?_;refine⟨O,O,fun h1 zD hL1=>?_⟩;have h5':h1 iI=some (.cells #[I f] aX (0,0)):=hL1 _ _ zS;have VX:h1 mW=some (.cells (flat Be.row p).toArray dD (0,0)):=hL1 _ _ zS;have h3':h1 nP=some (.cells #[.slice (some ⟨b,off,none⟩) fs.length cap,.slice a' ss.length f_] x9 (0,0)):=hL1 _ _ zS;have wz:h1 b=some (.cells c E fz):=zD.1 _ _ hb;clear hL1 zD;have hi4:=YX hi;have agj:(flat Be.row p).toArray[0+i.toNat*2+1]? =some (I (bK p i)):=by have:=(Q7 hp.ok (i:=i.toNat) aj).2;simpa[bK]using this
    have atc:0<=bK p i/\bK p i<=17:=(nG hp.ok (i:=i.toNat) aj).2.2.2;refine gI ?_;refine W.jS (n:=10) O ?_;refine ay 0 ?_;refine ay 1 ?_;refine ay 2 ?_;refine ay 3 ?_;refine ay 4 ?_;refine ay 5 ?_;refine ay 6 ?_;refine ay 7 ?_;refine ay 8 ?_;refine ay 9 ?_;refine az ?_;refine lg ?_;refine aA.ask (fun Dn=>?_) (fun Dn=>?_)
    · refine zT ?_
      first | refine oq (rM rfl rfl rfl) rfl (aI rfl rfl rfl) rfl rfl ?_ | refine oq (kU rfl rfl rfl) rfl (aI rfl rfl rfl) rfl rfl ?_
      refine lg ?_;refine aA.ask (fun vT=>?_) (fun vT=>?_)
      · refine zT ?_;refine oq (adr O O) O (aI O O O) O O ?_;refine zT ?_;refine aA.aiL (fun EM=>?_) (fun EM=>?_)
        · refine jk ?_;refine W.kG ?_
          first
          | have hea:early (BQ u fl.co) VZ=true:=EJ EM
          | have hea:early (BQ u fl.co) (some (cc,n1))=true:=EK c70
          refine lg ?_;refine W.jS (n:=16) O ?_;refine ay 0 ?_;refine ay 1 ?_
          first | refine fJ 2 (rM rfl rfl rfl) rfl ?_ | refine fJ 2 (kU rfl rfl rfl) rfl ?_
          refine ay 3 ?_;refine ay 4 ?_;refine ay 5 ?_;refine ay 6 ?_;refine ay 7 ?_;refine ay 8 ?_;refine ay 9 ?_;refine ay 10 ?_;refine ay 11 ?_;refine ay 12 ?_;refine ay 13 ?_;refine ay 14 ?_;refine ae (i:=15) O an O O (eS O O O ?_);refine⟨.inl aB,?_⟩;refine az ?_;refine iE ?_;refine⟨O,O,_,O,?_⟩;have e:=I5 (lo:=fl.lo) Dn vT hea;rw[e];exact qE
        obtain⟨⟨cc,n1⟩,rfl⟩:∃q,VZ=some q:=by
          cases VZ with
          | none=>simp at EM
          | some q=>exact⟨q,rfl⟩
        refine d_ ?_;refine ate ?_;refine lF ?_;refine W.aJ O (fun c70=>?_) (fun c70=>?_)
        · first
          | have hea:early (BQ u fl.co) VZ=true:=EJ EM
          | have hea:early (BQ u fl.co) (some (cc,n1))=true:=EK c70
          refine lg ?_;refine W.jS (n:=16) O ?_;refine ay 0 ?_;refine ay 1 ?_
          first | refine fJ 2 (rM rfl rfl rfl) rfl ?_ | refine fJ 2 (kU rfl rfl rfl) rfl ?_
          refine ay 3 ?_;refine ay 4 ?_;refine ay 5 ?_;refine ay 6 ?_;refine ay 7 ?_;refine ay 8 ?_;refine ay 9 ?_;refine ay 10 ?_;refine ay 11 ?_;refine ay 12 ?_;refine ay 13 ?_;refine ay 14 ?_;refine ae (i:=15) O an O O (eS O O O ?_);refine⟨.inl aB,?_⟩;refine az ?_;refine iE ?_;refine⟨O,O,_,O,?_⟩;have e:=I5 (lo:=fl.lo) Dn vT hea;rw[e];exact qE
        refine d_ ?_;refine W.jS (n:=16) O ?_;refine ay 0 ?_;refine ay 1 ?_
        first | refine fJ 2 (rM rfl rfl rfl) rfl ?_ | refine fJ 2 (kU rfl rfl rfl) rfl ?_
        refine ay 3 ?_;refine ay 4 ?_;refine ay 5 ?_;refine ay 6 ?_;refine ay 7 ?_;refine ay 8 ?_;refine ay 9 ?_;refine ay 10 ?_;refine ay 11 ?_;refine ay 12 ?_;refine ay 13 ?_;refine ay 14 ?_;refine ae (i:=15) O an O O (eS O O O ?_);refine⟨.inl aB,?_⟩;refine az ?_;refine iE ?_;refine⟨O,O,_,O,?_⟩
        first
        | (
           have e:=vO (co:=fl.co) (lo:=fl.lo) (day:=bK p i) (fd:=VZ) Dn;rw[e];exact qE)
        | (
           have e:=vP (lo:=fl.lo) (fd:=VZ) vT;rw[e];exact qE)
        | (
           have e:=vS (lo:=fl.lo) (day:=bK p i) (c:=cc) c70;rw[e];exact qE)
      refine gI ?_;refine aA.noU ?_;refine aA.noU ?_;refine aA.noU ?_;refine aA.noU ?_;refine gI ?_;refine W.iq ?_;refine d_ ?_;refine W.jS (n:=16) O ?_;refine ay 0 ?_;refine ay 1 ?_
      first | refine fJ 2 (rM rfl rfl rfl) rfl ?_ | refine fJ 2 (kU rfl rfl rfl) rfl ?_
      refine ay 3 ?_;refine ay 4 ?_;refine ay 5 ?_;refine ay 6 ?_;refine ay 7 ?_;refine ay 8 ?_;refine ay 9 ?_;refine ay 10 ?_;refine ay 11 ?_;refine ay 12 ?_;refine ay 13 ?_;refine ay 14 ?_;refine ae (i:=15) O an O O (eS O O O ?_);refine⟨.inl aB,?_⟩;refine az ?_;refine iE ?_;refine⟨O,O,_,O,?_⟩
      first
      | (
         have e:=vO (co:=fl.co) (lo:=fl.lo) (day:=bK p i) (fd:=VZ) Dn;rw[e];exact qE)
      | (
         have e:=vP (lo:=fl.lo) (fd:=VZ) vT;rw[e];exact qE)
      | (
         have e:=vS (lo:=fl.lo) (day:=bK p i) (c:=cc) c70;rw[e];exact qE)
    refine iC ?_;refine aA.noU ?_;refine aA.noU ?_;refine aA.noU ?_;refine aA.noU ?_;refine gI ?_;refine W.iq ?_;refine d_ ?_;refine W.jS (n:=16) O ?_;refine ay 0 ?_;refine ay 1 ?_
    first | refine fJ 2 (rM rfl rfl rfl) rfl ?_ | refine fJ 2 (kU rfl rfl rfl) rfl ?_
    refine ay 3 ?_;refine ay 4 ?_;refine ay 5 ?_;refine ay 6 ?_;refine ay 7 ?_;refine ay 8 ?_;refine ay 9 ?_;refine ay 10 ?_;refine ay 11 ?_;refine ay 12 ?_;refine ay 13 ?_;refine ay 14 ?_;refine ae (i:=15) O an O O (eS O O O ?_);refine⟨.inl aB,?_⟩;refine az ?_;refine iE ?_;refine⟨O,O,_,O,?_⟩
    first
    | (
       have e:=vO (co:=fl.co) (lo:=fl.lo) (day:=bK p i) (fd:=VZ) Dn;rw[e];exact qE)
    | (
       have e:=vP (lo:=fl.lo) (fd:=VZ) vT;rw[e];exact qE)
    | (
       have e:=vS (lo:=fl.lo) (day:=bK p i) (c:=cc) c70;rw[e];exact qE)
  intro s e A he hA dd;rw[Nv]at he
  cases he
  subst hA;refine kR ?_;refine lvm (hl:=At.head) (lQ ?_);simp only[Fq,hfe,<-hD,hff]
  rfl
def V3{α:Type}(P:Program):Sem α->Option α
 | .pure a=>some a
 | .program k=>V3 P (k P)
 | _=>none
theorem vU{α:Type}{P:Program}{h:Hp}:∀{s:Sem α} {a:α} {F:ah} {Q:α->ah->Prop},V3 P s=some a->Q a F->tr P h s F Q
 | .pure b,a,F,Q,e,H=>by simp only[V3,dY]at e;subst e;exact H
 | .program k,a,F,Q,e,H=>vU (s:=k P) e H
 | .load ..,_,_,_,e,_=>by cases e
 | .store ..,_,_,_,e,_=>by cases e
 | .new ..,_,_,_,e,_=>by cases e
 | .shape ..,_,_,_,e,_=>by cases e
 | .freeze ..,_,_,_,e,_=>by cases e
 | .frozen ..,_,_,_,e,_=>by cases e
 | .getObj ..,_,_,_,e,_=>by cases e
 | .setObj ..,_,_,_,e,_=>by cases e
 | .choose ..,_,_,_,e,_=>by cases e
 | .sys ..,_,_,_,e,_=>by cases e
 | .mark ..,_,_,_,e,_=>by cases e
 | .halt _,_,_,_,e,_=>by cases e

class XF(P:Program)(f:FuncId)(e:outParam (Array Value->Sem Value)):Prop where
 out:∃fn,P.funcs[f]? =some fn∧(fn.name== "runtime.NumGoroutine")=false∧fn.body.isNone=true∧(Extern.findNext fn).isNone=true∧Extern.find fn=some e

theorem aaV{main:aN}{f:FuncId}{e:Array Value->Sem Value}[i:XF P f e]{args:Array Value}(H:tr P h (e args) F R):tr P h (callFunc f args) F (tZ P main h R):=by
 obtain⟨fn,h1,h2,h3,h4,h5⟩:=i.out;have VX:Extern.findNext fn=none:=by simpa using h4
 simp only[callFunc,bind_eq,au,o7,h1,h2,h3,VX,h5,eU,if_false,if_true];refine⟨O,?_⟩;show tr P h ((e args).bind fun v=>.pure (Next.value v)) F (tZ P main h R);exact cu (qg H fun v F' r=>r)

section
variable{x:Cx}{Q:fO}{ρ:Env}{ds:List Deferred}{F:ah}{ops:Array Oper}{i:Nat}{rest:List Nat}{d:Tmp}{ty:TypeId}{pos:String}{bW:Array Edge}{g:Option (Nat×Bool)}
variable{args:List Operand}{ts:Array TypeId}{vs:List Value}{f:FuncId}{e:Array Value->Sem Value}{y:Operand}{name:String}{t:TypeId}{u r u':Value}
theorem cx(H:∀h',Ext x.h h'->tr x.P h' (e vs.toArray) F R)(K:∀v F',R v F'->aA x ops rest Q ((d,v)::ρ) ds F')(ho:dS ops.toList i=some ⟨some d,.call ⟨.value (.func f),args.toArray,ts⟩,ty,pos,bW,g⟩:=by rfl)[XF x.P f e](hv:jv ρ args=some vs:=by rfl)
  (hw:gY ops ρ ⟨some d,.call ⟨.value (.func f),args.toArray,ts⟩,ty,pos,bW,g⟩:=by first | exact wn | exact aI rfl rfl rfl) (hd:Nat.blt d x.n=true:=by rfl):aA x ops (i::rest) Q ρ ds F:=
 aA.Ql (o:=⟨some d,.call ⟨.value (.func f),args.toArray,ts⟩,ty,pos,bW,g⟩) (fun ee he=>⟨F,[],by simp,fun h' e1 e2=>by
  have e3:ee (.func f)= .func (.func f) #[] #[]:=he _ _ O;simp only[execOp,resolve,Deferred.ofValue,e3,bind_eq,au,bind_pure,invoke,List.map_toArray,oK he hv,List.append_toArray,List.nil_append,List.append_nil];exact aaV (qg (H h' e1) fun v F' q=>⟨F',by simp,K v F' q⟩)⟩) (aK ho) hw hd O
theorem cxp(hp:V3 x.P (e vs.toArray)=some r)(K:aA x ops rest Q ((d,r)::ρ) ds F)(ho:dS ops.toList i=some ⟨some d,.call ⟨.value (.func f),args.toArray,ts⟩,ty,pos,bW,g⟩:=by rfl)[XF x.P f e](hv:jv ρ args=some vs:=by rfl)
  (hw:gY ops ρ ⟨some d,.call ⟨.value (.func f),args.toArray,ts⟩,ty,pos,bW,g⟩:=by first | exact wn | exact aI rfl rfl rfl) (hd:Nat.blt d x.n=true:=by rfl):aA x ops (i::rest) Q ρ ds F:=
 cx (R:=fun v F'=>v=r/\F'=F) (fun h' _=>vU hp ⟨O,O⟩) (fun v F' ⟨h1,h2⟩=>by subst h1 h2;exact K) ho hv hw hd
theorem cix(hm:V3 x.P (method (x.P.types.size+Made.depth) t u name)=some (f,u'))(hp:V3 x.P (e (u'::vs).toArray)=some r)(K:aA x ops rest Q ((d,r)::ρ) ds F)(ho:dS ops.toList i=some ⟨some d,.call ⟨.invoke y name,args.toArray,ts⟩,ty,pos,bW,g⟩:=by rfl)[XF x.P f e](hy:ev ρ y=some (.iface t u):=by rfl)(hv:jv ρ args=some vs:=by rfl)
  (hw:gY ops ρ ⟨some d,.call ⟨.invoke y name,args.toArray,ts⟩,ty,pos,bW,g⟩:=by first | exact wn | exact aI rfl rfl rfl) (hd:Nat.blt d x.n=true:=by rfl):aA x ops (i::rest) Q ρ ds F:=
 aA.Ql (o:=⟨some d,.call ⟨.invoke y name,args.toArray,ts⟩,ty,pos,bW,g⟩) (fun ee he=>⟨F,[],by simp,fun h' e1 e2=>by
  have e3:((#[Value.iface t u]++vs.toArray)[0]? :Option Value)=some (.iface t u):=by simp
  have e4:(#[Value.iface t u]++vs.toArray).extract 1 (#[Value.iface t u]++vs.toArray).size=vs.toArray:=by
   apply Array.ext';simp
  simp only[execOp,resolve,he y _ hy,bind_eq,au,bind_pure,List.map_toArray,oK he hv,invoke,e3,e4,callMethod,o7];refine cu (vU hm ?_);have e5: #[u']++vs.toArray=(u'::vs).toArray:=by simp
  simp only[e5];exact aaV (vU hp ⟨F,by simp,K⟩)⟩) (aK ho) hw hd O
end
end Go.jc
