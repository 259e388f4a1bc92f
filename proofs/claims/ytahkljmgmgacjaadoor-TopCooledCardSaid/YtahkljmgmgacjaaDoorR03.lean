/- Slices: of what is read ('Sl'), and of one's own ('Os'); append, copy, slices of slices. Conditions: none; over any program. (And 12 texts more.) -/
import Derived.Test.YtahkljmgmgacjaaDoorR02
import Derived.Conc.CrowdComm
import Derived.Conc.Know
import Derived.Conc.Quits
import Init
import Derived.Test.YtahkljmgmgacjaaDoorR01
import Derived.Conc.ClockLaws
import Derived.Conc.CrowdTrace
import Derived.Conc.CrowdCom2
import Derived.Conc.MuSpec
set_option linter.unusedVariables false
set_option linter.unusedSimpArgs false
set_option linter.unusedSectionVars false

/- Slices: of what is read ('Sl'), and of one's own ('Os'); append, copy, slices of slices. Conditions: none; over any program. -/
namespace Go.aS
def Part(c:Array Value)(off:Nat)(xs:List Value):Prop:=∃pre post,c.toList=pre++(xs++post)∧pre.length=off

theorem Part.len{c:Array Value}{off:Nat}{xs:List Value}(h:Part c off xs):off+xs.length≤c.size:=by
 obtain⟨pre,post,h1,h2⟩:=h
 have:c.size=c.toList.length:=by simp
 rw[this,h1];simp;omega
theorem Part.get{c:Array Value}{off j:Nat}{xs:List Value}(h:Part c off xs)(hj:j<xs.length):c[off+j]? =xs[j]? :=by
 obtain⟨pre,post,h1,h2⟩:=h
 have:c[off+j]? =c.toList[off+j]? :=by simp
 rw[this,h1,List.getElem?_append_right (by omega),List.getElem?_append_left (by omega)]
 congr 1;omega
theorem Part.sub{c:Array Value}{off:Nat}{a b d:List Value}(h:Part c off (a++(b++d))):Part c (off+a.length) b:=by
 obtain⟨pre,post,h1,h2⟩:=h
 exact⟨pre++a,d++post,by rw[h1];simp,by simp;omega⟩
theorem Part.extract{c:Array Value}{off:Nat}{xs:List Value}(h:Part c off xs):c.extract off (off+xs.length)=xs.toArray:=by
 obtain⟨pre,post,h1,h2⟩:=h
 apply Array.ext'
 rw[Array.toList_extract,h1]
 simp[List.extract,h2.symm]
theorem Part.all(xs:List Value):Part xs.toArray 0 xs:=⟨[],[],by simp,rfl⟩
class Rw{α:Type}(row:α→List Value)(w:outParam Nat):Prop where
 len:∀p,(row p).length=w
 ones:∀p,ones (row p)=true

def fH(n:Int):List Value:=[.int .i64 n]
instance:Rw fH 1:=⟨fun _=>rfl,fun _=>rfl⟩

section
variable{α:Type}{row:α→List Value}{w:Nat}[rw':Rw row w]
def flat(row:α→List Value)(l:List α):List Value:=l.flatMap row
theorem iV(p:α)(l:List α):flat row (p::l)=row p++flat row l:=rfl
theorem zk(l l':List α):flat row (l++l')=flat row l++flat row l':=List.flatMap_append
theorem jT(l:List α):(flat row l).length=l.length*w:=by
 induction l with
 | nil=>simp[flat]
 | cons p l ih=>rw[iV,List.length_append,Rw.len,ih,List.length_cons,Nat.succ_mul];omega
theorem OW:∀(a b:List Value),ones (a++b)=(ones a&&ones b)
 | [],b=>rfl
 | u::a,b=>by simp[aS.ones,OW a b,Bool.and_assoc]
include rw' in
theorem Lu(l:List α):aS.ones (flat row l)=true:=by
 induction l with
 | nil=>rfl
 | cons p l ih=>rw[iV,OW,rw'.ones,ih];rfl

theorem Q8{l:List α}{i:Nat}{p:α}(h:l[i]? =some p):flat row l=flat row (l.take i)++(row p++flat row (l.drop (i+1))):=by
 have hlt:i<l.length:=by
  rcases Nat.lt_or_ge i l.length with h' | h'
  ·exact h'
  ·rw[List.getElem?_eq_none h']at h;cases h
 have e:l=l.take i++(p::l.drop (i+1)):=by
  rw[List.getElem?_eq_getElem hlt,Option.some.injEq]at h
  rw[←h,List.getElem_cons_drop,List.take_append_drop]
 conv=>lhs;rw[e]
 rw[zk,iV]

theorem Part.rowP{c:Array Value}{off i:Nat}{l:List α}{p:α}(h:Part c off (flat row l))(hi:l[i]? =some p):Part c (off+i*w) (row p):=by
 have hlt:i<l.length:=by
  rcases Nat.lt_or_ge i l.length with h' | h'
  ·exact h'
  ·rw[List.getElem?_eq_none h']at hi;cases hi
 rw[Q8 hi]at h
 have:=h.sub
 rwa[jT,List.length_take,Nat.min_eq_left (by omega)]at this
theorem Part.abd{c:Array Value}{off i:Nat}{l:List α}{p:α}(h:Part c off (flat row l))(hi:l[i]? =some p):c.extract (off+i*w) (off+i*w+w)=(row p).toArray∧off+i*w+w≤c.size:=by
 have h1:=h.rowP hi
 have h2:=h1.extract
 have h3:=h1.len
 rw[Rw.len (row:=row) (w:=w)]at h2 h3
 exact⟨h2,h3⟩

/-! ### Slices that are read -/
def Sl(h:Hp)(row:α→List Value)(v:Value)(l:List α):Prop:=
 ∃a cap,v= .slice a l.length cap∧(l≠[]→∃b off c E fz,a=some ⟨b,off,none⟩∧h b=some (.cells c E fz)∧Part c off (flat row l))

omit rw' in
theorem Sl.ext{h h':Hp}(e:Ext h h'){v:Value}{l:List α}(H:Sl h row v l):Sl h' row v l:=by
 obtain⟨a,cap,h1,h2⟩:=H
 refine⟨a,cap,h1,fun hl=>?_⟩
 obtain⟨b,off,c,E,fz,h3,h4,h5⟩:=h2 hl
 exact⟨b,off,c,E,fz,h3,e.1 _ _ h4,h5⟩
omit rw' in
theorem Sl.nil{h:Hp}{a:Option Addr}{cap:Nat}:Sl h row (.slice a 0 cap) []:=⟨a,cap,rfl,fun h=>absurd rfl h⟩
omit rw' in
theorem Sl.mk{h:Hp}{b off n cap:Nat}{c:Array Value}{E:TypeId}{fz:Nat×Nat}{l:List α}(hb:h b=some (.cells c E fz))(hn:n=l.length)(hp:Part c off (flat row l)):Sl h row (.slice (some ⟨b,off,none⟩) n cap) l:=
 ⟨_,cap,by rw[hn],fun _=>⟨b,off,c,E,fz,rfl,hb,hp⟩⟩
omit rw' in
theorem Sl.len{h:Hp}{a:Option Addr}{n cap:Nat}{l:List α}(H:Sl h row (.slice a n cap) l):n=l.length:=by
 obtain⟨a',cap',h1,_⟩:=H
 cases h1;rfl

/-! ### Slices of one's own -/
def Os(E:TypeId)(row:α→List Value)[Rw row w](v:Value)(l:List α)(A:ah):Prop:=
 (l=[]∧v= .slice none 0 0∧Shut A)∨∃β c cap J,v= .slice (some ⟨β,0,none⟩) l.length cap∧A=(β,.cells c E (0,0))::J∧c.size=cap*w∧l.length≤cap∧Part c 0 (flat row l)∧Shut J

theorem Os.nil{E:TypeId}{A:ah}(h:Shut A):Os E row (.slice none 0 0) [] A:=.inl ⟨rfl,rfl,h⟩
theorem Os.shut{E:TypeId}{v:Value}{l:List α}{A:ah}(H:Os E row v l A):Shut A:=by
 rcases H with⟨_,_,h⟩ | ⟨β,c,cap,J,_,rfl,_,_,_,h⟩
 ·exact h
 ·exact .cons rfl h
theorem Os.sl{E:TypeId}{v:Value}{l:List α}{A:ah}(H:Os E row v l A){h:Hp}(hl:fF A h):Sl h row v l:=by
 rcases H with⟨rfl,rfl,_⟩ | ⟨β,c,cap,J,rfl,rfl,h1,h2,h3,_⟩
 ·exact .nil
 ·exact .mk (hl β (.cells c E (0,0)) (by simp)) rfl h3
theorem Os.dA{E:TypeId}{v:Value}{l:List α}{A:ah}(H:Os E row v l A):∃a cap,v= .slice a l.length cap:=by
 rcases H with⟨rfl,rfl,_⟩ | ⟨β,c,cap,J,rfl,rfl,h1,h2,h3,_⟩
 ·exact⟨_,_,rfl⟩
 ·exact⟨_,_,rfl⟩

/-! ### append -/
theorem DU{P:Program}{h:Hp}{F:ah}{v:Value}{l:List α}{Q:Array Value→ah→Prop}(H:Sl h row v l)(K:Q (flat row l).toArray F):tr P h (Builtin.firstCells w l.length v) F Q:=by
 obtain⟨a,cap,rfl,h2⟩:=H
 cases l with
 | nil=>
  cases a with
  | none=>exact K
  | some a=>simp only[Builtin.firstCells,List.length_nil,Nat.zero_mul,loadCells,loadCellsFrom];exact K
 | cons p l=>
  obtain⟨b,off,c,E,fz,rfl,h4,h5⟩:=h2 (by simp)
  have h6:=h5.len
  have h7:=h5.extract
  rw[jT]at h6 h7
  simp only[Builtin.firstCells,loadCells]
  refine gX (.inl h4) _ 0 #[] (by omega) ?_
  simp only[Nat.add_zero,Array.empty_append]
  rw[h7];exact K

theorem UO{P:Program}{h:Hp}{E:TypeId}{A:ah}{v:Value}{l:List α}{Q:Array Value→ah→Prop}(H:Os E row v l A)(K:Q (flat row l).toArray A):tr P h (Builtin.firstCells w l.length v) A Q:=by
 rcases H with⟨rfl,rfl,_⟩ | ⟨β,c,cap,J,rfl,rfl,h1,h2,h3,_⟩
 ·exact K
 ·have h6:=h3.len
  have h7:=h3.extract
  rw[jT]at h6 h7
  simp only[Builtin.firstCells,loadCells]
  refine gX (.inr (List.mem_cons_self ..)) _ 0 #[] (by omega) ?_
  simp only[Nat.add_zero,Array.empty_append]
  rw[h7];exact K

theorem LC(n:Nat):∀(r c:Nat),c≤n→Builtin.growBy n r c≤2*n+768
 | 0,c,h=>by simp[Builtin.growBy];omega
 | r+1,c,h=>by
  unfold Builtin.growBy
  split
  ·omega
  ·rename_i hc
   by_cases h1:c+(c+768) / 4≤n
   ·exact LC n r _ h1
   ·cases r with
    | zero=>simp[Builtin.growBy];omega
    | succ r=>unfold Builtin.growBy;rw[if_pos (by omega)];omega
theorem IV{need cap:Nat}(h:cap<need):Builtin.nextslicecap need cap≤2*need+768:=by
 unfold Builtin.nextslicecap
 split
 ·omega
 ·split
  ·omega
  ·exact LC _ _ _ (by omega)

theorem Gz:∀(vs:List Value) (c:Array Value) {xs:List Value},Part c 0 xs→xs.length+vs.length≤c.size→Part (jv c xs.length vs) 0 (xs++vs)
 | [],c,xs,h,_=>by simpa[jv]using h
 | u::r,c,xs,h,hn=>by
  simp only[List.length_cons]at hn
  have h':Part (c.setIfInBounds xs.length u) 0 (xs++[u]):=by
   obtain⟨pre,post,h1,h2⟩:=h
   have hp:pre=[]:=List.length_eq_zero_iff.1 h2
   subst hp
   cases post with
   | nil=>
    have:c.size=c.toList.length:=by simp
    rw[this,h1]at hn;simp at hn;omega
   | cons y post=>
    refine⟨[],post,?_,rfl⟩
    rw[Array.toList_setIfInBounds,h1]
    simp
  have:=Gz r (c.setIfInBounds xs.length u) h' (by simp;omega)
  simpa[jv]using this

theorem zn{zc:Array Value}{n:Nat}:(Builtin.zeroCells zc n).size=n*zc.size:=by simp[Builtin.zeroCells]

theorem UQ{P:Program}{h:Hp}{t t' ty E E' by':Nat}{z:Value}{zc:Array Value}[TD P t (.slice E)][TD P t' (.slice E')][TI P E w by' z zc]{v x:Value}{l l':List α}{A:ah}{Q:Value→ah→Prop}(hzc:zc.size=w)
  (hs:Os E row v l A) (hx:Sl h row x l') (hb:(2*(l.length+l'.length)+768)*by'≤2 ^ 48) (hby:0<by')
  (K:∀v' A',Os E row v' (l++l') A'→Q v' A'):tr P h (Builtin.append_ #[t,t'] ty #[v,x]) A Q:=by
 obtain⟨j,hj,hj1,hj2,hj3,hj4⟩:=TI.out (inferInstance:TI P E w by' z zc)
 have hm:((l.length+l'.length:Nat):Int)≤IntKind.i64.max:=by
  have h1:(2*(l.length+l'.length)+768)*1≤(2*(l.length+l'.length)+768)*by':=Nat.mul_le_mul_left _ hby
  have h2:IntKind.i64.max=9223372036854775807:=rfl
  omega
 obtain⟨ax,Q9,hxe,_⟩:=id hx
 obtain⟨a,cap,hv⟩:=hs.dA
 subst hv hxe
 have e1:(#[t,t']:Array TypeId)[0]? =some t:=rfl
 have e2:(#[t,t']:Array TypeId)[1]? =some t':=rfl
 have e3:(#[Value.slice a l.length cap,Value.slice ax l'.length Q9]:Array Value)[0]? =some (.slice a l.length cap):=rfl
 have e4:(#[Value.slice a l.length cap,Value.slice ax l'.length Q9]:Array Value)[1]? =some (.slice ax l'.length Q9):=rfl
 simp only[Builtin.append_,e1,e2,e3,e4,bind_eq,au,bind_assoc,bind_pure,aC,dH,Bool.false_eq_true,if_false,Builtin.lenOf,Bool.not_false,if_true]
 by_cases hc:l.length+l'.length≤cap
 ·rw[if_pos hc]
  refine bJ (DU hx ?_)
  rcases hs with⟨rfl,he,hsh⟩ | ⟨β,c,cap',J,he,rfl,h1,h2,h3,hsh⟩
  ·cases he
   have:l'=[]:=List.length_eq_zero_iff.1 (by simp at hc;simp[hc])
   subst this
   exact K _ A (.nil hsh)
  ·cases he
   have hl3:=jT (row:=row) l
   have WE:=jT (row:=row) l'
   have hle:l.length*w+l'.length*w≤c.size:=by rw[h1,←Nat.add_mul];exact Nat.mul_le_mul_right _ hc
   have ea:(⟨β,0,none⟩:Addr).add (l.length*w)=⟨β,l.length*w,none⟩:=by rw[jE rfl];simp
   simp only[ea]
   refine bJ (kV (flat row l') 0 c (Lu l') At.head (by rw[WE];simp;omega) ?_)
   refine K _ _ (.inr ⟨β,jv c (l.length*w) (flat row l'),cap,J,by rw[List.length_append],by simp,by rw[y9,h1],by rw[List.length_append];exact hc,?_,hsh⟩)
   rw[zk,←hl3]
   exact Gz _ _ h3 (by rw[hl3,WE];exact hle)
 ·rw[if_neg hc]
  have c1:¬(((l.length+l'.length:Nat):Int)>IntKind.i64.max∧(false=true∨(by':Nat)=0)):=by omega
  have c2:¬Builtin.nextslicecap (l.length+l'.length) cap*by'>2 ^ 48:=by
   have:=IV (show cap<l.length+l'.length by omega)
   have:=Nat.mul_le_mul_right by' this
   omega
  simp only[dJ hj,hj2]
  have c1':¬(((l.length+l'.length:Nat):Int)>IntKind.i64.max):=by omega
  simp only[c1',false_and,if_false]
  rw[dJ hj,hj2,if_neg c2]
  intro n ⟨tp,hn⟩
  have hn':l.length+l'.length≤n:=by rw[hn];simp only[Question.cut];omega
  clear hn c2
  show tr P h (Sem.bind (typeInfo E) _) A Q
  rw[dJ hj,hj2]
  
  have room:∀{β:Type} {f:Unit→Sem β} {Q':β→ah→Prop},tr P h (f ()) A Q'→tr P h ((askRoom (n*by')).bind f) A Q':=by
   intro β f Q' H
   unfold askRoom
   split
   ·exact⟨rfl,H⟩
   ·exact H
  refine room (bJ (UO hs (bJ (DU hx ?_))))
  simp only[fG,hj4,newRow,bind_eq,au,bind_assoc,bind_pure]
  refine wI fun r _ _=>?_
  refine K _ _ (.inr ⟨r,_,n,A,by rw[List.length_append],rfl,?_,by rw[List.length_append];exact hn',?_,hs.shut⟩)
  ·simp only[Array.size_append,List.size_toArray,jT,zn,hzc,←Nat.add_mul]
   congr 1;omega
  ·refine⟨[],(Builtin.zeroCells zc (n- (l.length+l'.length))).toList,?_,rfl⟩
   rw[zk]
   simp only[Array.toList_append,List.nil_append,List.append_assoc]
end
/-! ### The laws -/
section rules
variable{x:Cx}{ρ:Env}{F:ah}{o:Oper}{R:Value→ah→Prop}{α:Type}{row:α→List Value}{w:Nat}[rw':Rw row w]
theorem iW{t t' E E' by':Nat}{z:Value}{zc:Array Value}{y yx:Operand}{v xv:Value}{l l':List α}{A:ah}{U:ah→ah}(ho:o.op= .call ⟨.builtin .append, #[y,yx], #[t,t']⟩)[TD x.P t (.slice E)][TD x.P t' (.slice E')][TI x.P E w by' z zc]
  (hy:ev ρ y=some v) (hx:ev ρ yx=some xv) (hs:Os E row v l A) (hg:Seg A F U) (hsrc:∀h',Ext x.h h'→fF (U []) h'→Sl h' row xv l') (hb:(2*(l.length+l'.length)+768)*by'≤2 ^ 48) (hby:0<by') (hzc:zc.size=w)
  (K:∀v' A',Os E row v' (l++l') A'→R v' (U A')):Ef x ρ o F R:=fun e he=>
 ⟨A,U [],hg.perm.1,fun h' e1 e2=>by
  simp only[execOp,ho,resolve,invoke,builtin,List.map_toArray,List.map_cons,List.map_nil,he y _ hy,he yx _ hx,bind_eq,au,bind_pure]
  exact bJ (UQ hzc hs (hsrc h' e1 e2) hb hby fun v' A' H=>⟨U A',hg.perm.2 A',K v' A' H⟩)⟩
end rules
end Go.aS

/- Loops over functions, as their bodies show them; iterators. Conditions: none; over any program. -/
namespace Go.aS
def runs{σ X:Type}(step:σ→X→σ×Bool):σ→List X→σ×Bool
 | s,[]=>(s,true)
 | s,p::xs=>match step s p with
  | (s',true)=>runs step s' xs
  | (s',false)=>(s',false)

theorem IW{σ X:Type}(step:σ→X→σ×Bool):∀(s:σ) (xs ys:List X),runs step s (xs++ys)=match runs step s xs with | (s',true)=>runs step s' ys | (s',false)=>(s',false)
 | s,[],ys=>rfl
 | s,p::xs,ys=>by
  simp only[List.cons_append,runs]
  split
  ·exact IW step _ xs ys
  ·rfl

def Out{σ:Type}(J K:σ→ah→Prop)(r:σ×Bool)(A:ah):Prop:=∃B,Sb B A∧match r with | (s,true)=>J s B | (s,false)=>K s B

def Yld(P:Program)(main:Side)(yv:Value)(h:Hp){σ X:Type}(enc:X→Value)(nx:X→σ→Prop)(step:σ→X→σ×Bool)(J K:σ→ah→Prop):Prop:=
 ∀h',Ext h h'→∀s p A,nx p s→J s A→gZ P main yv [enc p] h' A fun r A'=>r= .bool (step s p).2∧Out J K (step s p) A'
def LD{σ X:Type}(nx:X→σ→Prop)(step:σ→X→σ×Bool)(s:σ)(xs:List X):Prop:=∀pre p post s',xs=pre++p::post→runs step s pre=(s',true)→nx p s'
def Far{σ X:Type}(step:σ→X→σ×Bool)(s:σ)(xs:List X)(t:σ)(rest:List X):Prop:=∃pre,xs=pre++rest∧runs step s pre=(t,true)
theorem Far.zero{σ X:Type}{step:σ→X→σ×Bool}{s:σ}{xs:List X}:Far step s xs s xs:=⟨[],rfl,rfl⟩
theorem Far.eq{σ X:Type}{step:σ→X→σ×Bool}{s t:σ}{xs rest:List X}(h:Far step s xs t rest):runs step s xs=runs step t rest:=by
 obtain⟨pre,rfl,h2⟩:=h
 rw[IW,h2]
theorem Far.next{σ X:Type}{step:σ→X→σ×Bool}{s t t':σ}{xs rest:List X}{p:X}(h:Far step s xs t (p::rest))(hs:step t p=(t',true)):Far step s xs t' rest:=by
 obtain⟨pre,h1,h2⟩:=h
 refine⟨pre++[p],by rw[h1];simp,?_⟩
 rw[IW,h2]
 simp only[runs,hs]
theorem LD.far{σ X:Type}{nx:X→σ→Prop}{step:σ→X→σ×Bool}{s t:σ}{xs rest:List X}{p:X}(ha:LD nx step s xs)(h:Far step s xs t (p::rest)):nx p t:=by
 obtain⟨pre,h1,h2⟩:=h
 exact ha _ _ _ _ h1 h2
theorem LD.mem{σ X:Type}{step:σ→X→σ×Bool}{s:σ}{xs:List X}:LD (fun p _=>p∈xs) step s xs:=fun pre p post s' e _=>by rw[e];simp

theorem Ext.trans{a b c:Hp}(h:Ext a b)(h':Ext b c):Ext a c:=⟨fun _ _ x=>h'.1 _ _ (h.1 _ _ x),fun _ x=>h'.2 _ (h.2 _ x)⟩

theorem Yld.sub{P:Program}{main:Side}{yv:Value}{h h':Hp}{σ X:Type}{enc:X→Value}{nx nx':X→σ→Prop}{step:σ→X→σ×Bool}{J K:σ→ah→Prop}(H:Yld P main yv h enc nx step J K)(e:Ext h h')(s:∀p s,nx' p s→nx p s):Yld P main yv h' enc nx' step J K:=
 fun h'' e' t p A hp=>H h'' (e.trans e') t p A (s p t hp)

def Iter(P:Program)(main:Side)(fv:Value){X:Type}(enc:X→Value)(xs:List X)(h:Hp):Prop:=
 ∀h',Ext h h'→∀(yv:Value),one yv=true→∀(σ:Type) (nx:X→σ→Prop) (step:σ→X→σ×Bool) (J K:σ→ah→Prop),Yld P main yv h' enc nx step J K→∀s A,LD nx step s xs→J s A→gZ P main fv [yv] h' A fun _ A'=>Out J K (runs step s xs) A'

theorem Iter.ext{P:Program}{main:Side}{fv:Value}{X:Type}{enc:X→Value}{xs:List X}{h h':Hp}(H:Iter P main fv enc xs h)(e:Ext h h'):Iter P main fv enc xs h':=
 fun h'' e'=>H h'' (e.trans e')

def Q_:Option Exit→Exit
 | none=>.normal
 | some e=>e

def tK:Exit→Option Code
 | .exit id=>some (.exit id)
 | .goto l=>some (.goto l)
 | .ret=>some .ret
 | _=>none

theorem uy{e:Option Exit}(he:∀x,e=some x→(tK x).isSome=true):MN (Q_ e)=some (e.bind tK):=by
 cases e with
 | none=>rfl
 | some x=>have:=he x rfl;cases x <;>first | rfl | cases this

theorem W.post{x:Cx}{c:Code}{Q Q':Post}{ρ:Env}{ds:List Deferred}{F:ah}(H:W x c Q ρ ds F)(hq:∀e ρ ds F,Q e ρ ds F→Q' e ρ ds F):W x c Q' ρ ds F:=H.mono hq

def BN{σ X:Type}(st:σ→X→σ)(ex:σ→X→Option Exit):σ×Option Exit→X→(σ×Option Exit)×Bool:=fun s p=>((st s.1 p,ex s.1 p),(ex s.1 p).isNone)

theorem IX{σ X:Type}{st:σ→X→σ}{ex:σ→X→Option Exit}:∀{xs:List X} {s:σ} {r:σ×Option Exit} {b:Bool},runs (BN st ex) (s,none) xs=(r,b)→r.2.isNone=b
 | [],s,r,b,h=>by cases h;rfl
 | p::xs,s,r,b,h=>by
  simp only[runs,BN]at h
  cases he:ex s p with
  | none=>simp only[he]at h;exact IX h
  | some e=>simp only[he]at h;cases h;rfl

theorem W.range{x:Cx}{Q:Post}{ρ:Env}{ds:List Deferred}{F:ah}{f:Operand}{t:Tmp}{us bd:Code}{fv:Value}{X σ:Type}{enc:X→Value}{xs:List X}(hf:ev ρ f=some fv)(hro:x.ro=none)(ht:Nat.blt t x.n=true)
  (st:σ→X→σ) (ex:σ→X→Option Exit) (D:σ→ah→Prop) (s₀:σ) {A₀:ah} {g_:ah→ah} (hs:Seg A₀ F g_) (h0:D s₀ A₀)
  (hi:∀h',Ext x.h h'→fF (g_ []) h'→Iter x.P x.main fv enc xs h')
  (hex:∀s p e,ex s p=some e→(tK e).isSome=true)
  (
   body:∀s p A,p∈xs→D s A→∀l h',Ext x.h h'→fF (g_ []) h'→W {x with ro:=some l,h:=h'} us (fun e xP xQ qp=>e= .normal∧xQ=[]∧∀h',Ext x.h h'→fF (g_ []) h'→
   W {x with ro:=some l,h:=h'} bd (fun e _ ds₂ kP=>ds₂=[]∧e=Q_ (ex s p)∧∃B,D (st s p) B∧Sb B kP) xP [] qp) ((t,enc p)::ρ) [] A)
  (after:∀s e A,(runs (BN st ex) (s₀,none) xs).1=(s,e)→D s A→∀d,Q (Q_ e) ρ (mark d::ds) ((d,.deferred (some []))::g_ A)):W x (.rangeFunc f #[t] us bd) Q ρ ds F:=by
 refine W.rangeFunc hf hro fun tmps hρ hsz l d=>?_
 let L (s:LoopState) (pd:Option Code):Obj:=.loop {state:=s,pending:=pd,fn:=x.fn,tmps,params:= #[t],assign:=us,body:=bd,defers:=d}
 let J:σ×Option Exit→ah→Prop:=fun s A=>s.2=none∧∃B,D s.1 B∧A=B++[(l,L .ready none)]
 let K:σ×Option Exit→ah→Prop:=fun s A=>∃B c,D s.1 B∧s.2.bind tK=some c∧A=B++[(l,L .done (some c))]
 
 refine⟨A₀++[(l,L .ready none)],(d,.deferred (some []))::g_ [],fun _ A'=>Out J K (runs (BN st ex) (s₀,none) xs) A',?_,?_,?_⟩
 ·refine(List.perm_append_comm.append_right _).trans ?_
  refine List.Perm.cons _ ?_
  exact List.perm_middle.trans (hs.perm.1.cons _)
 ·intro h' e1 e2
  have e3:fF (g_ []) h':=fun b o hb=>e2 b o (List.mem_cons_of_mem _ hb)
  refine hi h' e1 e3 h' ⟨fun _ _ z=>z,fun _ z=>z⟩ _ rfl (σ×Option Exit) (fun p _=>p∈xs) (BN st ex) J K ?_ (s₀,none) _ LD.mem ⟨rfl,A₀,h0,rfl⟩
  
  rintro h'' e4 ⟨s,e⟩ p A hp ⟨rfl,B,hB,rfl⟩
  have hE:Ext x.h h'':=e1.trans e4
  have hL:fF (g_ []) h'':=fun b o hb=>e4.1 _ _ (e3 b o hb)
  refine⟨_,_,_,rfl,?_⟩
  simp only[invoke,Instr.yield,Instr.getLoop,bind_eq,au,bind_assoc]
  refine⟨L .ready none,.inr (List.mem_append_right _ (List.mem_cons_self ..)),(fun _ _ _=>by simp[L]),rfl,?_⟩
  have ez:Array.foldl (fun(tmps:Array Value) (x:Tmp×Value)=>tmps.setIfInBounds x.1 x.2) tmps (#[t].zip #[enc p])=tmps.setIfInBounds t (enc p):=by simp
  show ni x.P x.main h'' _ (.round l x.fn (Array.foldl (fun(tmps:Array Value) (x:Tmp×Value)=>tmps.setIfInBounds x.1 x.2) tmps (#[t].zip #[enc p])) us bd) _
  rw[ez]
  have hlt:t<tmps.size:=by rw[hsz];exact Nat.le_of_ble_eq_true ht
  have WG:dQ ((t,enc p)::ρ) (tmps.setIfInBounds t (enc p)):=hρ.put hlt _
  have hsz':(tmps.setIfInBounds t (enc p)).size=x.n:=by simpa using hsz
  show Rnd x.P x.main l x.fn (tmps.setIfInBounds t (enc p)) us bd h'' _ _
  refine Rnd.aG _ WG ?_
  rw[hsz']
  
  refine(W.frame (x:={x with ro:=some l,h:=h''}) fun h₃ e5 _=>body s p B hp hB l h₃ (hE.trans e5) (fun b o hb=>e5.1 _ _ (hL b o hb))).mono ?_
  rintro e xP xQ qp ⟨A',⟨rfl,rfl,hbd⟩,rfl⟩
  refine⟨rfl,rfl,?_⟩
  simp only[Instr.beginRound,Instr.getLoop,bind_eq,au,bind_assoc]
  refine⟨L .ready none,.inr (List.mem_append_right _ (List.mem_cons_self ..)),(fun _ _ _=>by simp[L]),rfl,?_⟩
  refine⟨L .ready none,A',[],rfl,(fun _ _ _=>by simp[L]),rfl,?_⟩
  show W _ _ _ _ _ (A'++[(l,L .busy none)])
  
  refine(W.frame (x:={x with ro:=some l,h:=h''}) fun h₃ e5 _=>hbd h₃ (hE.trans e5) (fun b o hb=>e5.1 _ _ (hL b o hb))).mono ?_
  rintro e tC ds₂ kP ⟨A₂,⟨rfl,rfl,Bg,BO,hsb⟩,rfl⟩
  refine⟨rfl,(ex s p).bind tK,uy fun e he=>hex s p e he,?_⟩
  simp only[Instr.endRound,Instr.getLoop,bind_eq,au,bind_assoc]
  refine⟨L .busy none,.inr (List.mem_append_right _ (List.mem_cons_self ..)),(fun _ _ _=>by simp[L]),rfl,?_⟩
  refine⟨L .busy none,A₂,[],rfl,(fun _ _ _=>by simp[L]),rfl,?_⟩
  cases he:ex s p with
  | none=>
   refine⟨by simp[BN,he],Bg++[(l,L .ready none)],hsb.app .refl,?_⟩
   simp only[BN,he]
   exact⟨rfl,Bg,BO,rfl⟩
  | some e=>
   obtain⟨c,hc⟩:=Option.isSome_iff_exists.1 (hex s p e he)
   have hj:(some e:Option Exit).bind tK=some c:=hc
   refine⟨by simp[BN,he,hc],Bg++[(l,L .done (some c))],?_,?_⟩
   ·rw[hj];exact hsb.app .refl
   ·simp only[BN,he]
    exact⟨Bg,c,BO,hj,rfl⟩
 ·rintro _ A' ⟨B,hsub,hB⟩
  refine⟨B,hsub,?_⟩
  generalize hr:runs (BN st ex) (s₀,none) xs=r at hB
  obtain⟨⟨s,e⟩,b⟩:=r
  have hrs:=IX hr
  have haft:=fun A hA=>after s e A (by rw[hr]) hA d
  simp only[Instr.endLoop,Instr.getLoop,bind_eq,au,bind_assoc]
  cases b with
  | true=>
   obtain⟨he,A,hA,rfl⟩:=hB
   simp only at he
   subst he
   refine⟨L .ready none,.inr (List.mem_append_left _ (List.mem_append_right _ (List.mem_cons_self ..))),(fun _ _ _=>by simp[L]),rfl,?_⟩
   refine⟨L .ready none,A,(d,.deferred (some []))::g_ [],by simp,(fun _ _ _=>by simp[L]),rfl,?_⟩
   refine⟨(d,.deferred (some []))::g_ A,?_,haft A hA⟩
   refine Sb.trans (Sb.dF ((hs.perm.2 A).cons _)) ?_
   refine(Sb.dF List.perm_middle.symm).trans (Sb.app .refl (Sb.skip rfl .refl))
  | false=>
   obtain⟨A,c,hA,hc,rfl⟩:=hB
   simp only at hc
   obtain⟨e,rfl,he⟩:=Option.bind_eq_some_iff.1 hc
   refine⟨L .done (some c),.inr (List.mem_append_left _ (List.mem_append_right _ (List.mem_cons_self ..))),(fun _ _ _=>by simp[L]),rfl,?_⟩
   refine⟨L .done (some c),A,(d,.deferred (some []))::g_ [],by simp,(fun _ _ _=>by simp[L]),rfl,?_⟩
   show W x c Q ρ (mark d::ds) _
   refine W.sb (F':=(d,.deferred (some []))::g_ A) ?_ ?_
   ·refine Sb.trans (Sb.dF ((hs.perm.2 A).cons _)) ?_
    refine(Sb.dF List.perm_middle.symm).trans (Sb.app .refl (Sb.skip rfl .refl))
   ·have q:=haft A hA
    cases e <;>simp only[tK,Option.some.injEq]at he <;>first | (cases he;done) | subst he
    ·exact W.exit q
    ·exact W.goto q
    ·exact W.ret q
end Go.aS

/- What goroutines list: a trace without races, kept by a goroutine's own steps. Conditions: none; over any program. -/
namespace Go.aS
open Go.Conc (Before Knows knows_own touchAt touchAt_of touchAt_old noRace_append getElem?_append_old getElem?_append_cases lt_size_of_getElem? touch_of hb_po mem_of_getElem? hb_app ofEvents_eq)
def In(l:Loc)(b:Nat):Prop:=
 match l with
 | .cell a=>a.block=b
 | .obj r=>r=b
 | _=>False

def Own(t:Trace)(g b:Nat):Prop:=∀i a,touchAt t i=some a→In a.loc b→Knows t g i
def Rd(t:Trace)(g b:Nat):Prop:=∀i a,touchAt t i=some a→In a.loc b→a.write=true→Knows t g i
theorem Own.rd{t:Trace}{g b:Nat}(h:Own t g b):Rd t g b:=fun i a h1 h2 _=>h i a h1 h2

structure Zj(t:Trace)(n size:Nat):Prop where
 quiet:∀op∈t,∀m,op.act= .mark m→Fg m=true
 clean:∀said,¬Race said t
 below:∀i a b,touchAt t i=some a→In a.loc b→b<size
 who:∀op∈t,op.g<n

theorem Zj.deaf{t:Trace}{n size:Nat}(h:Zj t n size)(g:Nat):∀i,t.deaf g i=0:=by
 intro i
 induction i with
 | zero=>rfl
 | succ i ih=>
  unfold Trace.deaf
  split
  ·rename_i hh _ _ heq;have:=h.quiet _ (mem_of_getElem? heq) .disable rfl;cases this
  ·rename_i hh _ _ heq;have:=h.quiet _ (mem_of_getElem? heq) .enable rfl;cases this
  ·exact ih
theorem Zj.heard{t:Trace}{n size:Nat}(h:Zj t n size){i:Nat}{op:MemOp}(hi:t[i]? =some op):t.heard i:=⟨op.g,by simp[Trace.g?,hi],h.deaf _ _⟩
theorem Zj.empty{n size:Nat}:Zj #[] n size:=
 ⟨fun op h=>by simp at h,fun said ⟨i,j,hij,⟨a,b,ha,_⟩,_⟩=>by simp[Trace.act?]at ha,fun i a b h=>by simp[touchAt,Trace.act?]at h,fun op h=>by simp at h⟩

theorem fP{t u:Trace}{i:Nat}{a:Touch}(h:touchAt (t++u) i=some a):(i<t.size∧touchAt t i=some a)∨(∃op,(t++u)[i]? =some op∧op∈u∧op.act.touch? =some a):=by
 obtain⟨x,hx,hxa⟩:=touch_of h
 rcases getElem?_append_cases hx with⟨hi,hx'⟩ | ⟨_,hxu⟩
 ·exact .inl ⟨hi,by rw[touchAt_of hx'];exact hxa⟩
 ·exact .inr ⟨x,hx,hxu,hxa⟩

theorem Own.app{t u:Trace}{g b:Nat}(h:Own t g b)(hu:∀op∈u,∀a,op.act.touch? =some a→In a.loc b→op.g=g):Own (t++u) g b:=by
 intro i a ha hl
 rcases fP ha with⟨hi,h1⟩ | ⟨op,ho,hm,h1⟩
 ·exact(h i a h1 hl).app u
 ·have:=knows_own ho
  rwa[hu op hm a h1 hl]at this
theorem Rd.app{t u:Trace}{g b:Nat}(h:Rd t g b)(hu:∀op∈u,∀a,op.act.touch? =some a→In a.loc b→a.write=true→op.g=g):Rd (t++u) g b:=by
 intro i a ha hl hw
 rcases fP ha with⟨hi,h1⟩ | ⟨op,ho,hm,h1⟩
 ·exact(h i a h1 hl hw).app u
 ·have:=knows_own ho
  rwa[hu op hm a h1 hl hw]at this

theorem pz{k:Hp}{M:Nat→Prop}{lo hi:Nat}{e:Event}(h:Bd k M lo hi e){a:Touch}(ht:(MemAct.ofEvent e).touch? =some a):
  ∃b,In a.loc b∧(∀b',In a.loc b'→b'=b)∧a.kind= .plain∧a.write=e.write∧(((k b).isSome=true∧isC (k b)=false∧(a.write=true→M b))∨(lo≤b∧b<hi)):=by
 obtain⟨loc,wr,sync⟩:=e
 unfold Bd at h
 simp only at h
 cases loc with
 | cell ad=>
  simp only at h
  obtain⟨rfl,h⟩:=h
  simp only[MemAct.ofEvent,MemAct.touch?,Option.some.injEq]at ht
  subst ht
  exact⟨ad.block,rfl,fun b' e=>e.symm,rfl,rfl,h⟩
 | obj r=>
  simp only at h
  obtain⟨rfl,h⟩:=h
  simp only[MemAct.ofEvent,MemAct.touch?,Option.some.injEq]at ht
  subst ht
  exact⟨r,rfl,fun b' e=>e.symm,rfl,rfl,h⟩
 | mark m=>
  simp only at h
  cases m <;>simp only[Fg]at h <;>first | (cases h;done) | (simp only[MemAct.ofEvent,MemAct.touch?]at ht;cases ht;done) | (cases wr <;>cases sync <;>simp only[MemAct.ofEvent,MemAct.touch?]at ht <;>cases ht)
 | _=>exact h.elim

theorem IY{k:Hp}{M:Nat→Prop}{lo hi:Nat}{e:Event}(h:Bd k M lo hi e){m:Mark}(hm:MemAct.ofEvent e= .mark m):Fg m=true:=by
 obtain⟨loc,wr,sync⟩:=e
 unfold Bd at h
 simp only at h
 cases loc with
 | mark m'=>
  have e1:(MemAct.ofEvent ⟨.mark m',wr,sync⟩)= .mark m':=by cases wr <;>cases sync <;>rfl
  rw[e1]at hm
  cases hm
  exact h
 | cell ad=>cases wr <;>cases sync <;>cases hm
 | obj r=>cases wr <;>cases sync <;>first | (cases hm;done) | exact absurd h.1 (by simp)
 | _=>exact h.elim

section step
variable{t:Trace}{n j:Nat}{k:Hp}{M:Nat→Prop}{w w':World}{es:Array Event}{fn:FuncId}{pos:String}
theorem mem_ofEvents{op:MemOp}(h:op∈MemOp.ofEvents j fn pos es):∃e∈es,op={g:=j,fn,pos,act:=.ofEvent e}:=by
 rw[ofEvents_eq]at h
 obtain⟨e,he,rfl⟩:=Array.mem_map.1 h
 exact⟨e,he,rfl⟩

theorem Zj.step(h:Zj t n w.heap.size)(hj:j<n)(hk:yF k w)(g:dX k M w w' es)(hO:∀b,M b→isC (k b)=false→Own t j b)(hR:∀b,(k b).isSome=true→isC (k b)=false→Rd t j b):
  Zj (t++MemOp.ofEvents j fn pos es) n w'.heap.size:=by
 refine⟨fun op hop m hm=>?_,fun said=>?_,fun i a b ha hb=>?_,fun op hop=>?_⟩
 ·rcases Array.mem_append.1 hop with h1 | h1
  ·exact h.quiet op h1 m hm
  ·obtain⟨e,he,rfl⟩:=mem_ofEvents h1
   exact IY (g.evs e he) hm
 ·refine noRace_append (h.clean said) (fun op hop=>by obtain⟨e,_,rfl⟩:=mem_ofEvents hop;rfl) fun i a ha op hop b hb hc=>?_
  obtain⟨e,he,rfl⟩:=mem_ofEvents hop
  obtain⟨bl,h1,_,h3,h4,h5⟩:=pz (g.evs e he) hb
  have hin:In a.loc bl:=by rw[hc.1];exact h1
  rcases h5 with⟨h5,h6,h7⟩ | h5
  ·cases hw:b.write with
   | true=>exact hO bl (h7 hw) h6 i a ha hin
   | false=>
    have haw:a.write=true:=by
     rcases hc.2.2.1 with h | h
     ·exact h
     ·rw[hw]at h;cases h
    exact hR bl h5 h6 i a ha hin haw
  ·exact absurd (h.below i a bl ha hin) (by omega)
 ·rcases fP ha with⟨_,h1⟩ | ⟨op,_,hm,h1⟩
  ·exact Nat.lt_of_lt_of_le (h.below i a b h1 hb) g.size
  ·obtain⟨e,he,rfl⟩:=mem_ofEvents hm
   obtain⟨bl,_,h2,_,_,h5⟩:=pz (g.evs e he) h1
   obtain rfl:=h2 b hb
   rcases h5 with⟨h5,_⟩ | h5
   ·obtain⟨o,ho⟩:=Option.isSome_iff_exists.1 h5
    exact Nat.lt_of_lt_of_le (hk.lt ho) g.size
   ·exact h5.2
 ·rcases Array.mem_append.1 hop with h1 | h1
  ·exact h.who op h1
  ·obtain⟨e,_,rfl⟩:=mem_ofEvents h1
   exact hj

theorem OX(b:Nat)(h:isC (snap k w w' b)=false):isC (k b)=false:=by
 cases hc:isC (k b)with
 | false=>rfl
 | true=>simp[snap,hc]at h

theorem UR{i b:Nat}(g:dX k M w w' es)(h:Own t i b)(hb:b<w.heap.size)(hn:(k b).isSome=true→isC (k b)=true):Own (t++MemOp.ofEvents j fn pos es) i b:=by
 refine h.app fun op hop a ha hl=>?_
 obtain⟨e,he,rfl⟩:=mem_ofEvents hop
 obtain⟨bl,_,h2,_,_,h5⟩:=pz (g.evs e he) ha
 obtain rfl:=h2 b hl
 rcases h5 with⟨h5,h6,_⟩ | h5
 ·rw[hn h5]at h6;cases h6
 ·omega
theorem WH{i b:Nat}(g:dX k M w w' es)(h:Rd t i b)(hb:b<w.heap.size)(hn:M b→isC (k b)=true):Rd (t++MemOp.ofEvents j fn pos es) i b:=by
 refine h.app fun op hop a ha hl hw=>?_
 obtain⟨e,he,rfl⟩:=mem_ofEvents hop
 obtain⟨bl,_,h2,_,_,h5⟩:=pz (g.evs e he) ha
 obtain rfl:=h2 b hl
 rcases h5 with⟨h5,h6,h7⟩ | h5
 ·rw[hn (h7 hw)]at h6;cases h6
 ·omega
end step
end Go.aS

/- The mutex, for any number of goroutines that lock once: how each stands to it, what holds of all, and what each move keeps. Conditions: none; no program in sight. -/
namespace Go.aS
set_option linter.unusedVariables false
inductive MR where
 | out | FD | AP | tok | hnd | hold | Nh | rel | wK | fin
 deriving DecidableEq,Repr

structure kQ where
 l:Nat
 w:Nat
 s:Nat
 n:Nat
 ms:Nat

def kQ.st(x:kQ):Nat:=8*x.n+4*x.s+2*x.w+x.l

abbrev Cn:=MR→Nat
def Mv(c:Cn)(r r':MR)(c':Cn):Prop:=∀q,c' q+(if r=q then 1 else 0)=c q+(if r'=q then 1 else 0)

def en(c:Cn)(ms left:Nat):Nat:=7*(c .out+left)+6*c .FD+5*c .AP+6*c .tok+6*c .hnd+5*c .hold+4*c .Nh+3*c .rel+3*c .wK+2*ms

structure jD(x:kQ)(c:Cn):Prop where
 bits:x.l≤1∧x.w≤1∧x.s≤1
 held:x.l=c .hold
 norm:x.s=0→x.w=c .FD+c .tok+c .rel+x.ms∧c .wK=0∧c .hnd=0∧x.n+c .rel+x.ms=c .AP∧(x.l=0→x.w=0→0<x.n→0<c .Nh)
 agd:x.s=1→x.w=0∧c .FD=0∧c .rel=0∧c .hold+c .wK+x.ms+c .tok+c .hnd=1∧x.n=c .AP+c .tok+c .hnd∧(x.l=1→0<x.n)

theorem Mv.all{c c':Cn}{r r':MR}(h:Mv c r r' c'):
  (c' .out+(if r= .out then 1 else 0)=c .out+(if r'= .out then 1 else 0))∧(c' .FD+(if r= .FD then 1 else 0)=c .FD+(if r'= .FD then 1 else 0))∧
  (c' .AP+(if r= .AP then 1 else 0)=c .AP+(if r'= .AP then 1 else 0))∧(c' .tok+(if r= .tok then 1 else 0)=c .tok+(if r'= .tok then 1 else 0))∧
  (c' .hnd+(if r= .hnd then 1 else 0)=c .hnd+(if r'= .hnd then 1 else 0))∧(c' .hold+(if r= .hold then 1 else 0)=c .hold+(if r'= .hold then 1 else 0))∧
  (c' .Nh+(if r= .Nh then 1 else 0)=c .Nh+(if r'= .Nh then 1 else 0))∧(c' .rel+(if r= .rel then 1 else 0)=c .rel+(if r'= .rel then 1 else 0))∧
  (c' .wK+(if r= .wK then 1 else 0)=c .wK+(if r'= .wK then 1 else 0))∧(c' .fin+(if r= .fin then 1 else 0)=c .fin+(if r'= .fin then 1 else 0)):=
 ⟨h _,h _,h _,h _,h _,h _,h _,h _,h _,h _⟩

theorem jD.start{c:Cn}(h:∀r,r≠ .out→r≠ .fin→c r=0):jD ⟨0,0,0,0,0⟩ c:=by
 refine⟨by simp,by simp[h .hold],fun _=>?_,fun h'=>by cases h'⟩
 simp[h .FD,h .tok,h .rel,h .wK,h .hnd,h .AP]

theorem kQ.abe{x y:kQ}(hx:x.l≤1∧x.w≤1∧x.s≤1)(hy:y.l≤1∧y.w≤1∧y.s≤1)(h:x.st=y.st):x.l=y.l∧x.w=y.w∧x.s=y.s∧x.n=y.n:=by
 unfold kQ.st at h;omega

section
variable{x:kQ}{c c':Cn}{left:Nat}
theorem jD.lock(H:jD x c)(hm:Mv c .out .hold c')(hL:x.l=0)(hS:x.s=0):jD {x with l:=1} c'∧en c' x.ms left<en c x.ms left:=by
 have hm:=hm.all
 simp only[reduceCtorEq,if_true,if_false]at hm
 obtain⟨a0,a1,a2,a3⟩:=H
 refine⟨⟨by(try simp only);omega,by(try simp only);omega,fun hs=>?_,fun hs=>?_⟩,by simp only[en];omega⟩ <;>(try simp only at*) <;>omega
theorem jD.acP(H:jD x c)(hm:Mv c .FD .hold c')(hL:x.l=0)(hS:x.s=0):jD {x with l:=1,w:=0} c'∧en c' x.ms left<en c x.ms left:=by
 have hm:=hm.all
 simp only[reduceCtorEq,if_true,if_false]at hm
 obtain⟨a0,a1,a2,a3⟩:=H
 refine⟨⟨by(try simp only);omega,by(try simp only);omega,fun hs=>?_,fun hs=>?_⟩,by simp only[en];omega⟩ <;>(try simp only at*) <;>omega
theorem jD.spin(H:jD x c)(hm:Mv c .out .FD c')(hS:x.s=0)(hW:x.w=0):jD {x with w:=1} c'∧en c' x.ms left<en c x.ms left:=by
 have hm:=hm.all
 simp only[reduceCtorEq,if_true,if_false]at hm
 obtain⟨a0,a1,a2,a3⟩:=H
 refine⟨⟨by(try simp only);omega,by(try simp only);omega,fun hs=>?_,fun hs=>?_⟩,by simp only[en];omega⟩ <;>(try simp only at*) <;>omega
theorem jD.queue(H:jD x c)(hm:Mv c .out .AP c')(hL:x.l=1∨x.s=1):jD {x with n:=x.n+1} c'∧en c' x.ms left<en c x.ms left:=by
 have hm:=hm.all
 simp only[reduceCtorEq,if_true,if_false]at hm
 obtain⟨a0,a1,a2,a3⟩:=H
 refine⟨⟨by(try simp only);omega,by(try simp only);omega,fun hs=>?_,fun hs=>?_⟩,by simp only[en];omega⟩ <;>(try simp only at*) <;>omega
theorem jD.abf(H:jD x c)(hm:Mv c .FD .AP c')(hL:x.l=1):jD {x with n:=x.n+1,w:=0} c'∧en c' x.ms left<en c x.ms left:=by
 have hm:=hm.all
 simp only[reduceCtorEq,if_true,if_false]at hm
 obtain⟨a0,a1,a2,a3⟩:=H
 refine⟨⟨by(try simp only);omega,by(try simp only);omega,fun hs=>?_,fun hs=>?_⟩,by simp only[en];omega⟩ <;>(try simp only at*) <;>omega
theorem jD.abg(H:jD x c)(hm:Mv c .FD .AP c')(hL:x.l=1):jD {x with n:=x.n+1,w:=0,s:=1} c'∧en c' x.ms left<en c x.ms left:=by
 have hm:=hm.all
 simp only[reduceCtorEq,if_true,if_false]at hm
 obtain⟨a0,a1,a2,a3⟩:=H
 have hs0:x.s=0:=by omega
 have a2':=a2 hs0
 clear a2 a3
 refine⟨⟨by(try simp only);omega,by(try simp only);omega,fun hs=>by simp at hs,fun hs=>?_⟩,by simp only[en];omega⟩
 show 0=0∧c' .FD=0∧c' .rel=0∧c' .hold+c' .wK+x.ms+c' .tok+c' .hnd=1∧x.n+1=c' .AP+c' .tok+c' .hnd∧(x.l=1→0<x.n+1)
 refine⟨rfl,?_,?_,?_,?_,?_⟩ <;>omega
theorem jD.take(H:jD x c)(hm:Mv c .AP .tok c')(hms:0<x.ms):jD {x with ms:=x.ms-1} c'∧en c' (x.ms-1) left<en c x.ms left:=by
 have hm:=hm.all
 simp only[reduceCtorEq,if_true,if_false]at hm
 obtain⟨a0,a1,a2,a3⟩:=H
 refine⟨⟨by(try simp only);omega,by(try simp only);omega,fun hs=>?_,fun hs=>?_⟩,by simp only[en];omega⟩ <;>(try simp only at*) <;>omega
theorem jD.woken(H:jD x c)(hm:Mv c .tok .FD c')(hS:x.s=0):jD x c'∧en c' x.ms left≤en c x.ms left:=by
 have hm:=hm.all
 simp only[reduceCtorEq,if_true,if_false]at hm
 obtain⟨a0,a1,a2,a3⟩:=H
 refine⟨⟨by(try simp only);omega,by(try simp only);omega,fun hs=>?_,fun hs=>?_⟩,by simp only[en];omega⟩ <;>(try simp only at*) <;>omega
theorem jD.handed(H:jD x c)(hm:Mv c .tok .hnd c')(hS:x.s=1):jD x c'∧en c' x.ms left≤en c x.ms left:=by
 have hm:=hm.all
 simp only[reduceCtorEq,if_true,if_false]at hm
 obtain⟨a0,a1,a2,a3⟩:=H
 refine⟨⟨by(try simp only);omega,by(try simp only);omega,fun hs=>?_,fun hs=>?_⟩,by simp only[en];omega⟩ <;>(try simp only at*) <;>omega
theorem jD.grab(H:jD x c)(hm:Mv c .hnd .hold c')(hn:2≤x.n):jD {x with l:=1,n:=x.n-1} c'∧en c' x.ms left<en c x.ms left:=by
 have hm:=hm.all
 simp only[reduceCtorEq,if_true,if_false]at hm
 obtain⟨a0,a1,a2,a3⟩:=H
 refine⟨⟨by(try simp only);omega,by(try simp only);omega,fun hs=>?_,fun hs=>?_⟩,by simp only[en];omega⟩ <;>(try simp only at*) <;>omega
theorem jD.acQ(H:jD x c)(hm:Mv c .hnd .hold c'):jD {x with l:=1,n:=x.n-1,s:=0} c'∧en c' x.ms left<en c x.ms left:=by
 have hm:=hm.all
 simp only[reduceCtorEq,if_true,if_false]at hm
 obtain⟨a0,a1,a2,a3⟩:=H
 refine⟨⟨by(try simp only);omega,by(try simp only);omega,fun hs=>?_,fun hs=>?_⟩,by simp only[en];omega⟩ <;>(try simp only at*) <;>omega
theorem jD.Zk(H:jD x c)(hm:Mv c .hold .fin c')(hq:x.s=0)(hn:x.n=0∨x.w=1):jD {x with l:=0} c'∧en c' x.ms left<en c x.ms left:=by
 have hm:=hm.all
 simp only[reduceCtorEq,if_true,if_false]at hm
 obtain⟨a0,a1,a2,a3⟩:=H
 refine⟨⟨by(try simp only);omega,by(try simp only);omega,fun hs=>?_,fun hs=>?_⟩,by simp only[en];omega⟩ <;>(try simp only at*) <;>omega
theorem jD.Zl(H:jD x c)(hm:Mv c .hold .Nh c')(hq:x.s=0):jD {x with l:=0} c'∧en c' x.ms left<en c x.ms left:=by
 have hm:=hm.all
 simp only[reduceCtorEq,if_true,if_false]at hm
 obtain⟨a0,a1,a2,a3⟩:=H
 refine⟨⟨by(try simp only);omega,by(try simp only);omega,fun hs=>?_,fun hs=>?_⟩,by simp only[en];omega⟩ <;>(try simp only at*) <;>omega
theorem jD.Zm(H:jD x c)(hm:Mv c .hold .wK c')(hq:x.s=1):jD {x with l:=0} c'∧en c' x.ms left<en c x.ms left:=by
 have hm:=hm.all
 simp only[reduceCtorEq,if_true,if_false]at hm
 obtain⟨a0,a1,a2,a3⟩:=H
 refine⟨⟨by(try simp only);omega,by(try simp only);omega,fun hs=>?_,fun hs=>?_⟩,by simp only[en];omega⟩ <;>(try simp only at*) <;>omega
theorem jD.leave(H:jD x c)(hm:Mv c .Nh .fin c')(hq:x.n=0∨x.l=1∨x.w=1∨x.s=1):jD x c'∧en c' x.ms left≤en c x.ms left:=by
 have hm:=hm.all
 simp only[reduceCtorEq,if_true,if_false]at hm
 obtain⟨a0,a1,a2,a3⟩:=H
 refine⟨⟨by(try simp only);omega,by(try simp only);omega,fun hs=>?_,fun hs=>?_⟩,by simp only[en];omega⟩ <;>(try simp only at*) <;>omega
theorem jD.wake(H:jD x c)(hm:Mv c .Nh .rel c')(hn:0<x.n)(hL:x.l=0)(hW:x.w=0)(hS:x.s=0):jD {x with n:=x.n-1,w:=1} c'∧en c' x.ms left<en c x.ms left:=by
 have hm:=hm.all
 simp only[reduceCtorEq,if_true,if_false]at hm
 obtain⟨a0,a1,a2,a3⟩:=H
 refine⟨⟨by(try simp only);omega,by(try simp only);omega,fun hs=>?_,fun hs=>?_⟩,by simp only[en];omega⟩ <;>(try simp only at*) <;>omega
theorem jD.post(H:jD x c)(hm:Mv c .rel .fin c'):jD {x with ms:=x.ms+1} c'∧en c' (x.ms+1) left<en c x.ms left:=by
 have hm:=hm.all
 simp only[reduceCtorEq,if_true,if_false]at hm
 obtain⟨a0,a1,a2,a3⟩:=H
 refine⟨⟨by(try simp only);omega,by(try simp only);omega,fun hs=>?_,fun hs=>?_⟩,by simp only[en];omega⟩ <;>(try simp only at*) <;>omega
theorem jD.postS(H:jD x c)(hm:Mv c .wK .fin c'):jD {x with ms:=x.ms+1} c'∧en c' (x.ms+1) left<en c x.ms left:=by
 have hm:=hm.all
 simp only[reduceCtorEq,if_true,if_false]at hm
 obtain⟨a0,a1,a2,a3⟩:=H
 refine⟨⟨by(try simp only);omega,by(try simp only);omega,fun hs=>?_,fun hs=>?_⟩,by simp only[en];omega⟩ <;>(try simp only at*) <;>omega

theorem jD.WI(H:jD x c)(h:0<c .hold):x.l=1:=by obtain⟨a0,a1,a2,a3⟩:=H;omega
theorem jD.aaN(H:jD x c)(h:0<c .FD):x.w=1∧x.s=0:=by obtain⟨a0,a1,a2,a3⟩:=H;omega
theorem jD.acR(H:jD x c)(h:0<c .tok):(x.s=0→x.w=1)∧(x.s=1→x.l=0∧x.w=0∧0<x.n):=by obtain⟨a0,a1,a2,a3⟩:=H;omega
theorem jD.OY(H:jD x c)(h:0<c .hnd):x.s=1∧x.l=0∧x.w=0∧0<x.n:=by obtain⟨a0,a1,a2,a3⟩:=H;omega
theorem jD.one(H:jD x c):c .hold≤1:=by obtain⟨a0,a1,a2,a3⟩:=H;omega
theorem jD.WJ(H:jD x c):x.n≤c .AP+c .tok+c .hnd:=by obtain⟨a0,a1,a2,a3⟩:=H;omega
theorem jD.goes(H:jD x c)(h:0<c .AP)(hms:x.ms=0):0<c .FD+c .tok+c .hnd+c .hold+c .Nh+c .rel+c .wK:=by obtain⟨a0,a1,a2,a3⟩:=H;omega
end
end Go.aS

/- The wait group, for any number of workers and one who waits: how each stands to it, what holds of all, and what each move keeps. Conditions: none; no program in sight. -/
namespace Go.aS
set_option linter.unusedVariables false
inductive WR where
 | live | s1 | s2 | s3 | s4 | gone
 deriving DecidableEq,Repr
inductive MP where
 | add (t:Nat)
 | wt (old:Option Nat) (B:Nat)
 | reg
 | seen
 | out
 deriving DecidableEq,Repr

abbrev Wn:=WR→Nat
def Wv(c:Wn)(r r':WR)(c':Wn):Prop:=∀q,c' q+(if r=q then 1 else 0)=c q+(if r'=q then 1 else 0)

structure DV where
 v:Nat
 w:Nat
 ws:Nat

def fQ(x:DV)(p:MP)(c:Wn):Prop:=
 match p with
 | .add t=>x.v=c .live+c .s1+t∧x.w=0∧x.ws=0∧c .s2+c .s3+c .s4=0
 | .wt old B=>x.v=c .live+c .s1∧x.w=0∧x.ws=0∧c .s2+c .s3+c .s4=0∧(match old with | none=>x.v<B | some o=>o=B∧x.v≤B)
 | .reg=>(0<x.v∧x.v=c .live+c .s1∧x.w=1∧x.ws=0∧c .s2+c .s3+c .s4=0)∨(c .live+c .s1=0∧x.v=0∧x.w=1∧x.ws=0∧c .s2+c .s3=1∧c .s4=0)∨
   (c .live+c .s1=0∧x.v=0∧x.w=0∧x.ws=0∧c .s2+c .s3=0∧c .s4=1)∨(c .live+c .s1=0∧x.v=0∧x.w=0∧x.ws=1∧c .s2+c .s3+c .s4=0)
 | .seen=>c .live+c .s1=0∧x.v=0∧x.w=0∧x.ws=0∧c .s2+c .s3+c .s4=0
 | .out=>c .live+c .s1=0∧x.v=0∧x.w=0∧x.ws=0∧c .s2+c .s3+c .s4=0

theorem Wv.all{c c':Wn}{r r':WR}(h:Wv c r r' c'):
  (c' .live+(if r= .live then 1 else 0)=c .live+(if r'= .live then 1 else 0))∧(c' .s1+(if r= .s1 then 1 else 0)=c .s1+(if r'= .s1 then 1 else 0))∧
  (c' .s2+(if r= .s2 then 1 else 0)=c .s2+(if r'= .s2 then 1 else 0))∧(c' .s3+(if r= .s3 then 1 else 0)=c .s3+(if r'= .s3 then 1 else 0))∧
  (c' .s4+(if r= .s4 then 1 else 0)=c .s4+(if r'= .s4 then 1 else 0))∧(c' .gone+(if r= .gone then 1 else 0)=c .gone+(if r'= .gone then 1 else 0)):=
 ⟨h _,h _,h _,h _,h _,h _⟩

section
variable{x:DV}{c c':Wn}{p:MP}{t B o:Nat}{old:Option Nat}
theorem fQ.told(H:fQ x p c)(hm:Wv c .live .s1 c'):fQ x p c':=by
 have hm:=hm.all
 simp only[reduceCtorEq,if_true,if_false]at hm
 cases p with
 | wt old B=>cases old <;>simp only[fQ]at H⊢<;>omega
 | reg=>simp only[fQ]at H⊢;rcases H with H | H | H | H <;>omega
 | _=>simp only[fQ]at H⊢<;>omega
theorem fQ.sub(H:fQ x p c)(hm:Wv c .s1 .gone c')(hx:¬(x.v=1∧x.w=1)):fQ {x with v:=x.v-1} p c'∧0<x.v∧x.w≤1:=by
 have hm:=hm.all
 simp only[reduceCtorEq,if_true,if_false]at hm
 cases p with
 | wt old B=>cases old <;>simp only[fQ]at H⊢<;>omega
 | reg=>simp only[fQ]at H⊢;rcases H with H | H | H | H <;>omega
 | _=>simp only[fQ]at H⊢<;>omega
theorem fQ.aey(H:fQ x p c)(hm:Wv c .s1 .s2 c')(hx:x.v=1∧x.w=1):fQ {x with v:=x.v-1} p c':=by
 have hm:=hm.all
 simp only[reduceCtorEq,if_true,if_false]at hm
 cases p with
 | wt old B=>cases old <;>simp only[fQ]at H⊢<;>omega
 | reg=>simp only[fQ]at H⊢;rcases H with H | H | H | H <;>omega
 | _=>simp only[fQ]at H⊢<;>omega
theorem fQ.WL(H:fQ x p c)(h:0<c .s1):0<x.v∧x.w≤1:=by
 cases p with
 | wt old B=>cases old <;>simp only[fQ]at H⊢<;>omega
 | reg=>simp only[fQ]at H⊢;rcases H with H | H | H | H <;>omega
 | _=>simp only[fQ]at H⊢<;>omega
theorem fQ.look(H:fQ x p c)(h:0<c .s2):x.v=0∧x.w=1:=by
 cases p with
 | wt old B=>cases old <;>simp only[fQ]at H⊢<;>omega
 | reg=>simp only[fQ]at H⊢;rcases H with H | H | H | H <;>omega
 | _=>simp only[fQ]at H⊢<;>omega
theorem fQ.looked(H:fQ x p c)(hm:Wv c .s2 .s3 c'):fQ x p c':=by
 have hm:=hm.all
 simp only[reduceCtorEq,if_true,if_false]at hm
 cases p with
 | wt old B=>cases old <;>simp only[fQ]at H⊢<;>omega
 | reg=>simp only[fQ]at H⊢;rcases H with H | H | H | H <;>omega
 | _=>simp only[fQ]at H⊢<;>omega
theorem fQ.store(H:fQ x p c)(hm:Wv c .s3 .s4 c'):fQ {x with v:=0,w:=0} p c':=by
 have hm:=hm.all
 simp only[reduceCtorEq,if_true,if_false]at hm
 cases p with
 | wt old B=>cases old <;>simp only[fQ]at H⊢<;>omega
 | reg=>simp only[fQ]at H⊢;rcases H with H | H | H | H <;>first | (exfalso;omega) | (refine .inr (.inr (.inl ⟨?_,?_,?_,?_,?_,?_⟩)) <;>first | trivial | omega)
 | _=>simp only[fQ]at H⊢<;>omega
theorem fQ.post(H:fQ x p c)(hm:Wv c .s4 .gone c'):fQ {x with ws:=x.ws+1} p c'∧x.ws=0:=by
 have hm:=hm.all
 simp only[reduceCtorEq,if_true,if_false]at hm
 cases p with
 | wt old B=>cases old <;>simp only[fQ]at H⊢<;>omega
 | reg=>simp only[fQ]at H⊢;rcases H with H | H | H | H <;>refine⟨?_,?_⟩ <;>omega
 | _=>simp only[fQ]at H⊢<;>omega
theorem fQ.inc(H:fQ x (.add t) c):fQ {x with v:=x.v+1} (.add (t+1)) c∧x.w=0:=by simp only[fQ]at H⊢;refine⟨?_,?_⟩ <;>omega
theorem fQ.spawn(H:fQ x (.add (t+1)) c)(h:∀q,c' q=c q+(if q= .live then 1 else 0)):fQ x (.add t) c':=by
 have h1:=h .live;have h2:=h .s1;have h3:=h .s2;have h4:=h .s3;have h5:=h .s4
 simp only[reduceCtorEq,if_true,if_false]at h1 h2 h3 h4 h5
 simp only[fQ]at*;omega
theorem fQ.begin(H:fQ x (.add 0) c):fQ x (.wt none (x.v+1)) c:=by simp only[fQ]at*;omega
theorem fQ.acS(H:fQ x (.wt old B) c)(h:x.v=0):fQ x .seen c∧x.w=0:=by cases old <;>simp only[fQ]at* <;>omega
theorem fQ.acT(H:fQ x (.wt none B) c):fQ x (.wt (some x.v) x.v) c∧x.v<B∧x.w=0:=by simp only[fQ]at H⊢;refine⟨⟨?_,?_,?_,?_,trivial,Nat.le_refl _⟩,?_,?_⟩ <;>omega
theorem fQ.reg(H:fQ x (.wt (some o) B) c)(h:x.v=o)(h0:0<o):fQ {x with w:=1} .reg c∧x.w=0:=by simp only[fQ]at H⊢;exact⟨.inl ⟨by omega,by omega,trivial,by omega,by omega⟩,by omega⟩
theorem fQ.miss(H:fQ x (.wt (some o) B) c)(h:x.v≠o):fQ x (.wt none o) c∧x.w=0:=by simp only[fQ]at H⊢;refine⟨?_,?_⟩ <;>omega
theorem fQ.take(H:fQ x .reg c)(h:0<x.ws):fQ {x with ws:=x.ws-1} .seen c:=by simp only[fQ]at*;omega
theorem fQ.acq(H:fQ x .seen c):fQ x .out c:=H
theorem fQ.acU(H:fQ x .seen c):x.v=0∧x.w=0∧x.ws=0∧c .live=0∧c .s1=0∧c .s2=0∧c .s3=0∧c .s4=0:=by simp only[fQ]at*;omega
theorem fQ.goes(H:fQ x .reg c)(h:x.ws=0):0<c .live+c .s1+c .s2+c .s3+c .s4:=by simp only[fQ]at*;omega
theorem fQ.small(H:fQ x p c)(ht:∀t,p= .add t→t≤1):x.v≤c .live+c .s1+1∧x.w≤1∧x.ws≤1:=by
 cases p with
 | add t=>have:=ht t rfl;simp only[fQ]at*;omega
 | wt old B=>cases old <;>simp only[fQ]at* <;>omega
 | _=>simp only[fQ]at* <;>omega
end
end Go.aS

/- A walk through a library's code that touches shared cells alone: trees of steps over any protocol, the judgement on code ('L'), its rules. Conditions: none; over any program. -/
namespace Go.aS
structure jM where
 S:Type
 A:Type
 X:Type
 at_:World→X→Prop
 can:A→S→Prop
 rel:A→S→X→Prop
 blk:A→X→Prop
 WO:A→S→X→S→Prop
 wld:A→X→World→World
 evs:A→X→Array Event
 wak:A→Prop
 free:A→Prop

inductive jJ(P:Program)(m:Bool)(π:jM)(E:π.S→Goroutine→Prop):π.S→Goroutine→Prop
 | exit {s:π.S} {g:Goroutine} (hs:g.status= .running) (h:E s g):jJ P m π E s g
 | idle {s:π.S} {g g':Goroutine} (hs:g.status= .running) (e:∀w,stepG P m g w= .go g' w #[]) (h:jJ P m π E s g'):jJ P m π E s g
 | act {s:π.S} {g:Goroutine} (a:π.A) (hs:g.status= .running) (hc:π.can a s) (ho:g.offers=none)
   (wait:∀w x,π.at_ w x→π.rel a s x→π.blk a x→stepG P m g w= .go {g with status:=.blocked} w #[])
   (ok:∀w x,π.at_ w x→π.rel a s x→¬π.blk a x→∃g',stepG P m g w= .go g' (π.wld a x w) (π.evs a x)∧g'.status= .running)
   (wk:π.wak a→mayWake P g=true) (fr:π.free a→∃g' es,(∀e∈es,Event.mute e=true)∧∀w,stepG P m g w= .go g' w es)
   (h:∀w x g' w' es s',π.at_ w x→π.rel a s x→¬π.blk a x→stepG P m g w= .go g' w' es→π.WO a s x s'→jJ P m π E s' g'):jJ P m π E s g

theorem jJ.bind{P:Program}{m:Bool}{π:jM}{E E':π.S→Goroutine→Prop}{s:π.S}{g:Goroutine}(T:jJ P m π E s g)(h:∀s g,g.status= .running→E s g→jJ P m π E' s g):jJ P m π E' s g:=by
 induction T with
 | exit hs he=>exact h _ _ hs he
 | idle hs e _ ih=>exact .idle hs e ih
 | act a hs hc ho wait ok wk fr _ ih=>exact .act a hs hc ho wait ok wk fr ih

structure Lx where
 P:Program
 m:Bool
 π:jM
 fn:FuncId
 n:Nat

abbrev kD(π:jM):=Exit→Env→List Deferred→π.S→Prop

def wL(P:Program)(m:Bool)(π:jM)(E:π.S→Goroutine→Prop)(b:Frame)(k:List Item)(cs:List Frame)(e:Exit)(tmps:Array Value)(ds:List Deferred)(s:π.S):Prop:=
 match e with
 | .normal=>jJ P m π E s (G (bW b tmps ds k) cs)
 | .exit id=>∃k',exitTo id k=some k'∧jJ P m π E s (G (bW b tmps ds k') cs)
 | .goto l=>∃k',gotoIn l k=some k'∧jJ P m π E s (G (bW b tmps ds k') cs)
 | .ret=>∀k',jJ P m π E s (G (bW b tmps ds (.code .ret::k')) cs)
 | _=>False

def L(x:Lx)(c:Code)(Q:kD x.π)(ρ:Env)(ds:List Deferred)(s:x.π.S):Prop:=
 ∀(b:Frame) (k:List Item) (cs:List Frame) (E:x.π.S→Goroutine→Prop) (tmps:Array Value),b.fn=x.fn→b.roundOf=none→b.kind≠ .early→dQ ρ tmps→tmps.size=x.n→
  (∀e ρ' ds' s' aZ,Q e ρ' ds' s'→dQ ρ' aZ→aZ.size=x.n→wL x.P x.m x.π E b k cs e aZ ds' s')→
  jJ x.P x.m x.π E s (G (bW b tmps ds (.code c::k)) cs)
def LO(x:Lx)(ops:Array Oper)(todo:List Nat)(Q:kD x.π)(ρ:Env)(ds:List Deferred)(s:x.π.S):Prop:=
 ∀(b:Frame) (k:List Item) (cs:List Frame) (E:x.π.S→Goroutine→Prop) (tmps:Array Value),b.fn=x.fn→b.roundOf=none→b.kind≠ .early→dQ ρ tmps→tmps.size=x.n→
  (∀e ρ' ds' s' aZ,Q e ρ' ds' s'→dQ ρ' aZ→aZ.size=x.n→wL x.P x.m x.π E b k cs e aZ ds' s')→
  jJ x.P x.m x.π E s (G (bW b tmps ds (.inRegion ops todo::k)) cs)

section rules
variable{x:Lx}{Q Q':kD x.π}{ρ ρ':Env}{ds:List Deferred}{s:x.π.S}
theorem L.mono{c:Code}(H:L x c Q ρ ds s)(hq:∀e ρ ds s,Q e ρ ds s→Q' e ρ ds s):L x c Q' ρ ds s:=
 fun b k cs E tmps h1 h2 h3 h4 h5 hc=>H b k cs E tmps h1 h2 h3 h4 h5 fun e ρ' ds' s' aZ q=>hc e ρ' ds' s' aZ (hq _ _ _ _ q)
theorem L.env{c:Code}(se:Sub ρ' ρ)(H:L x c Q ρ' ds s):L x c Q ρ ds s:=
 fun b k cs E tmps h1 h2 h3 h4 h5 hc=>H b k cs E tmps h1 h2 h3 (h4.sub se) h5 hc
theorem L.skip(H:Q .normal ρ ds s):L x .skip Q ρ ds s:=
 fun b k cs E tmps h1 h2 h3 h4 h5 hc=>.idle rfl (fun _=>MK) (hc .normal ρ ds s tmps H h4 h5)
theorem L.label{l:Nat}(H:Q .normal ρ ds s):L x (.label l) Q ρ ds s:=
 fun b k cs E tmps h1 h2 h3 h4 h5 hc=>.idle rfl (fun _=>OG) (hc .normal ρ ds s tmps H h4 h5)
theorem L.ret(H:Q .ret ρ ds s):L x .ret Q ρ ds s:=
 fun b k cs E tmps h1 h2 h3 h4 h5 hc=>hc .ret ρ ds s tmps H h4 h5 k
theorem L.exit{id:Nat}(H:Q (.exit id) ρ ds s):L x (.exit id) Q ρ ds s:=
 fun b k cs E tmps h1 h2 h3 h4 h5 hc=>by
  obtain⟨k',e,g⟩:=hc (.exit id) ρ ds s tmps H h4 h5
  exact .idle rfl (fun _=>S9 e) g
theorem L.goto{l:Nat}(H:Q (.goto l) ρ ds s):L x (.goto l) Q ρ ds s:=
 fun b k cs E tmps h1 h2 h3 h4 h5 hc=>by
  obtain⟨k',e,g⟩:=hc (.goto l) ρ ds s tmps H h4 h5
  exact .idle rfl (fun _=>S_ e) g

def UU{π:jM}(K:Env→List Deferred→π.S→Prop)(Q:kD π):kD π:=fun e ρ ds s=>match e with | .normal=>K ρ ds s | e=>Q e ρ ds s

theorem wL.push{P:Program}{m:Bool}{π:jM}{E:π.S→Goroutine→Prop}{b:Frame}{it:Item}{k:List Item}{cs:List Frame}{e:Exit}{tmps:Array Value}{ds:List Deferred}{s:π.S}(hx:it.plain=true)(he:e≠ .normal)
  (H:wL P m π E b k cs e tmps ds s):wL P m π E b (it::k) cs e tmps ds s:=by
 cases e with
 | normal=>exact absurd rfl he
 | exit id=>
  have e1:exitTo id (it::k)=exitTo id k:=by cases it <;>simp_all[exitTo,Item.plain]
  simp only[wL,e1]at H⊢
  exact H
 | goto l=>
  have e1:gotoIn l (it::k)=gotoIn l k:=by cases it <;>simp_all[gotoIn,Item.plain]
  simp only[wL,e1]at H⊢
  exact H
 | ret=>exact H
 | panic ch=>exact H
 | outgrown=>exact H

theorem L.seq{y z:Code}(H:L x y (UU (fun ρ' ds' s'=>L x z Q ρ' ds' s') Q) ρ ds s):L x (.seq y z) Q ρ ds s:=by
 intro b k cs E tmps h1 h2 h3 h4 h5 hc
 refine .idle rfl (fun _=>Iz) (H b (.code z::k) cs E tmps h1 h2 h3 h4 h5 fun e ρ' ds' s' aZ q a1 a2=>?_)
 cases e with
 | normal=>exact q b k cs E aZ h1 h2 h3 a1 a2 hc
 | exit id=>exact(hc _ _ _ _ _ q a1 a2).push rfl (by simp)
 | goto l=>exact(hc _ _ _ _ _ q a1 a2).push rfl (by simp)
 | ret=>exact(hc _ _ _ _ _ q a1 a2).push (it:=.code z) rfl (by simp)
 | panic ch=>exact hc _ _ _ _ _ q a1 a2
 | outgrown=>exact hc _ _ _ _ _ q a1 a2

def Nj{π:jM}(id:Nat)(Q:kD π):kD π:=fun e ρ ds s=>match e with | .exit id'=>bif Nat.beq id' id then Q .normal ρ ds s else Q (.exit id') ρ ds s | e=>Q e ρ ds s
theorem L.block{id:Nat}{c:Code}(H:L x c (Nj id Q) ρ ds s):L x (.block id c) Q ρ ds s:=by
 intro b k cs E tmps h1 h2 h3 h4 h5 hc
 refine .idle rfl (fun _=>OH) (H b (.inBlock id::k) cs E tmps h1 h2 h3 h4 h5 fun e ρ' ds' s' aZ q a1 a2=>?_)
 cases e with
 | normal=>exact .idle rfl (fun _=>Iy) (hc .normal _ _ _ _ q a1 a2)
 | exit id'=>
  cases hid:Nat.beq id' id with
  | true=>
   have e:id'=id:=Nat.eq_of_beq_eq_true hid
   simp only[Nj,hid,cond_true]at q
   exact⟨k,by simp[exitTo,e],hc .normal _ _ _ _ q a1 a2⟩
  | false=>
   simp only[Nj,hid,cond_false]at q
   have e1:exitTo id' (.inBlock id::k)=exitTo id' k:=by
    have:id≠id':=fun e=>by subst e;rw[Nat.beq_refl]at hid;cases hid
    simp[exitTo,this]
   have:=hc (.exit id') _ _ _ _ q a1 a2
   simp only[wL,e1]at this⊢
   exact this
 | goto l=>
  have e1:gotoIn l (.inBlock id::k)=gotoIn l k:=by simp[gotoIn]
  have:=hc (.goto l) _ _ _ _ q a1 a2
  simp only[wL,e1]at this⊢
  exact this
 | ret=>exact hc .ret _ _ _ _ q a1 a2
 | panic ch=>exact hc (.panic ch) _ _ _ _ q a1 a2
 | outgrown=>exact hc .outgrown _ _ _ _ q a1 a2

theorem L.loop{σ:Type}{c:Code}(C:σ→Prop)(Ev:σ→Env)(St:σ→x.π.S)(μ:σ→Nat)(s₀:σ)(h₀:C s₀)(he:Sub (Ev s₀) ρ)(hst:St s₀=s)
  (round:∀s,C s→L x c (UU (fun ρ' ds' s''=>ds'=ds∧∃s',C s'∧μ s'<μ s∧Sub (Ev s') ρ'∧St s'=s'') Q) (Ev s) ds (St s)):L x (.loop c) Q ρ ds s:=by
 refine L.env he ?_
 subst hst
 intro b k cs E tmps h1 h2 h3 h4 h5 hc
 refine .idle rfl (fun _=>SY) ?_
 have key:∀N s,μ s=N→C s→∀tmps,dQ (Ev s) tmps→tmps.size=x.n→jJ x.P x.m x.π E (St s) (G (bW b tmps ds (.code c:: .inLoop c::k)) cs):=by
  intro N
  induction N using Nat.strongRecOn with
  | _ N ih=>
   intro s hN hs tmps h4 h5
   refine round s hs b (.inLoop c::k) cs E tmps h1 h2 h3 h4 h5 fun e ρ' ds' s'' aZ q a1 a2=>?_
   cases e with
   | normal=>
    obtain⟨rfl,s',c1,c2,c3,rfl⟩:=q
    exact .idle rfl (fun _=>Lj) (ih (μ s') (hN▸c2) s' rfl c1 aZ (a1.sub c3) a2)
   | exit id=>exact(hc _ _ _ _ _ q a1 a2).push rfl (by simp)
   | goto l=>exact(hc _ _ _ _ _ q a1 a2).push rfl (by simp)
   | ret=>exact(hc _ _ _ _ _ q a1 a2).push (it:=.inLoop c) rfl (by simp)
   | panic ch=>exact hc _ _ _ _ _ q a1 a2
   | outgrown=>exact hc _ _ _ _ _ q a1 a2
 exact key _ s₀ rfl h₀ tmps h4 h5

theorem L.region{id:Nat}{ops:Array Oper}{todo:List Nat}(ht:List.range ops.size=todo)(H:LO x ops todo Q ρ ds s):L x (.region id ops false) Q ρ ds s:=
 fun b k cs E tmps h1 h2 h3 h4 h5 hc=>.idle rfl (fun _=>Ll) (by rw[ht];exact H b k cs E tmps h1 h2 h3 h4 h5 hc)
theorem LO.nil{ops:Array Oper}(H:Q .normal ρ ds s):LO x ops [] Q ρ ds s:=
 fun b k cs E tmps h1 h2 h3 h4 h5 hc=>.idle rfl (fun _=>uq) (hc .normal ρ ds s tmps H h4 h5)
end rules
abbrev sd(m:Bool):Side:=⟨m,fun _=>True⟩

section ops
variable{x:Lx}{Q:kD x.π}{ρ:Env}{ds:List Deferred}{s:x.π.S}{ops:Array Oper}{i:Nat}{rest:List Nat}
theorem LO.split{d:Nat}{v:Bool}(_hv:look ρ d=some (.bool v))(ht:v=true→LO x ops (i::rest) Q ρ ds s)(hf:v=false→LO x ops (i::rest) Q ρ ds s):LO x ops (i::rest) Q ρ ds s:=by
 cases v with
 | true=>exact ht rfl
 | false=>exact hf rfl

def Kn1(ρ:Env)(e:Operand→Value):Prop:=∀y v,ev ρ y=some v→e y=v

def Cv(x:Lx)(ρ:Env)(o:Oper)(v:Value):Prop:=∀e,Kn1 ρ e→∃es,seen x.P x.fn es= #[]∧∀w,(execOp e o).runT x.P w #[]=(.ok (.value v) w,es)

theorem LO.q{o:Oper}{v:Value}(ho:ops[i]? =some o)(hw:want ops ρ o)(hd:d_ o.dst x.n=true)(hdf:∀c,o.op≠ .defer c)(hv:Cv x ρ o v)(H:LO x ops rest Q (put ρ o.dst v) ds s):LO x ops (i::rest) Q ρ ds s:=by
 intro b k cs E tmps h1 h2 h3 h4 h5 hc
 obtain⟨es,hes,hr⟩:=hv (bW b tmps ds (.inRegion ops (i::rest)::k)).eval fun _ _ hx=>h4.ev hx
 have hk':(b.kind==CallKind.early)=false:=by simpa using h3
 obtain⟨p1,p2⟩:=h4.put' h5 hd v
 have hfn:(bW b tmps ds (.inRegion ops (i::rest)::k)).fn=x.fn:=h1
 refine .idle (g':=G ((bW b tmps ds (.inRegion ops (i::rest)::k)).finish v) cs) rfl (fun w=>?_) ?_
 ·have:=AL (P:=x.P) (main:=sd x.m) (ds:=ds) (rest:=rest) (b:=b) (k:=k) (cs:=cs) (w:=w) ho (hw.wanted h4) hdf
  rw[show(sd x.m).b=x.m from rfl]at this
  rw[this,lZ (fr:=bW b tmps ds (.inRegion ops (i::rest)::k)) (cs:=cs) (hr w) hk',hfn,hes]
 ·rw[eY (cs:=cs) ho v]
  exact H b k cs E _ h1 h2 h3 p1 p2 hc

theorem LO.act{o:Oper}(a:x.π.A)(ho:ops[i]? =some o)(hw:want ops ρ o)(hd:d_ o.dst x.n=true)(hdf:∀c,o.op≠ .defer c)(hcan:x.π.can a s)
  (hb:∀e,Kn1 ρ e→∀w y,x.π.at_ w y→x.π.rel a s y→x.π.blk a y→∃es w',(execOp e o).runT x.P w #[]=(.halt .blocked w',es)∧w'=w)
  (ok:∀e,Kn1 ρ e→∀w y,x.π.at_ w y→x.π.rel a s y→¬x.π.blk a y→∃v es,(execOp e o).runT x.P w #[]=(.ok (.value v) (x.π.wld a y w),es)∧seen x.P x.fn es=x.π.evs a y∧∀s',x.π.WO a s y s'→LO x ops rest Q (put ρ o.dst v) ds s')
  (wk:x.π.wak a→∀e,Kn1 ρ e→∃f fn as ts,o.op= .call ⟨.value f,as,ts⟩∧e f= .func (.func fn) #[] #[]∧(x.P.funcs[fn]?).any (·.body.isSome)=false)
  (fr:x.π.free a→∀e,Kn1 ρ e→∃v es,(∀ev∈seen x.P x.fn es,Event.mute ev=true)∧∀w,(execOp e o).runT x.P w #[]=(.ok (.value v) w,es)):LO x ops (i::rest) Q ρ ds s:=by
 intro b k cs E tmps h1 h2 h3 h4 h5 hc
 have hk':(b.kind==CallKind.early)=false:=by simpa using h3
 have hkn:Kn1 ρ (bW b tmps ds (.inRegion ops (i::rest)::k)).eval:=fun _ _ hx=>h4.ev hx
 have hfn:(bW b tmps ds (.inRegion ops (i::rest)::k)).fn=x.fn:=h1
 have hst:∀w,stepG x.P x.m (G (bW b tmps ds (.inRegion ops (i::rest)::k)) cs) w=stepG.apply x.P true (bW b tmps ds (.inRegion ops (i::rest)::k)) cs none (execOp (bW b tmps ds (.inRegion ops (i::rest)::k)).eval o) w:=fun w=>by
  have:=AL (P:=x.P) (main:=sd x.m) (ds:=ds) (rest:=rest) (b:=b) (k:=k) (cs:=cs) (w:=w) ho (hw.wanted h4) hdf
  exact this
 refine .act a rfl hcan rfl (fun w y h6 h7 h8=>?_) (fun w y h6 h7 h8=>?_) (fun hwk=>?_) (fun hfr=>?_) (fun w y g' w' es' s' h6 h7 h8 e hn=>?_)
 ·obtain⟨es,w',hr,rfl⟩:=hb _ hkn w y h6 h7 h8
  rw[hst]
  unfold stepG.apply
  simp only[hr,hk',if_true]
  simp[Conc.seen_none,GStep.after,G,Conc.G]
 ·obtain⟨v,es,hr,hs,_⟩:=ok _ hkn w y h6 h7 h8
  refine⟨G ((bW b tmps ds (.inRegion ops (i::rest)::k)).finish v) cs,?_,rfl⟩
  rw[hst,lZ (fr:=bW b tmps ds (.inRegion ops (i::rest)::k)) (cs:=cs) hr hk',hfn,hs]
 ·obtain⟨f,fn,as,ts,e1,e2,e3⟩:=wk hwk _ hkn
  have e4:(bW b tmps ds (.inRegion ops (i::rest)::k)).eval f= .func (.func fn) #[] #[]:=e2
  simp only[mayWake,G,Conc.G,bW,ho,Option.map_some,e1]
  simp only[bW]at e4
  rw[e4]
  simp[e3]
 ·obtain⟨v,es,hm,hr⟩:=fr hfr _ hkn
  refine⟨G ((bW b tmps ds (.inRegion ops (i::rest)::k)).finish v) cs,seen x.P x.fn es,hm,fun w=>?_⟩
  rw[hst,lZ (fr:=bW b tmps ds (.inRegion ops (i::rest)::k)) (cs:=cs) (hr w) hk',hfn]
 ·obtain⟨v,es,hr,hs,hcont⟩:=ok _ hkn w y h6 h7 h8
  rw[hst,lZ (fr:=bW b tmps ds (.inRegion ops (i::rest)::k)) (cs:=cs) hr hk']at e
  cases e
  obtain⟨p1,p2⟩:=h4.put' h5 hd v
  rw[eY (cs:=cs) ho v]
  exact hcont s' hn b k cs E _ h1 h2 h3 p1 p2 hc

def iK(P:Program)(m:Bool)(π:jM)(f:FuncId)(args:Array Value)(s:π.S)(R:Value→π.S→Prop):Prop:=
 ∀(c:Frame) (cs:List Frame) (E:π.S→Goroutine→Prop),(∀v s',R v s'→jJ P m π E s' (G (c.finish v) cs))→jJ P m π E s (G (Frame.enter P f args .normal) (c::cs))
theorem LO.call{o:Oper}{f:FuncId}{args:Array Value}(ho:ops[i]? =some o)(hw:want ops ρ o)(hd:d_ o.dst x.n=true)(hdf:∀c,o.op≠ .defer c)
  (hv:∀e,Kn1 ρ e→∃es,seen x.P x.fn es= #[]∧∀w,(execOp e o).runT x.P w #[]=(.ok (.enter f args) w,es))
  (H:iK x.P x.m x.π f args s fun v s'=>LO x ops rest Q (put ρ o.dst v) ds s'):LO x ops (i::rest) Q ρ ds s:=by
 intro b k cs E tmps h1 h2 h3 h4 h5 hc
 obtain⟨es,hes,hr⟩:=hv (bW b tmps ds (.inRegion ops (i::rest)::k)).eval fun _ _ hx=>h4.ev hx
 have hk':(b.kind==CallKind.early)=false:=by simpa using h3
 have hfn:(bW b tmps ds (.inRegion ops (i::rest)::k)).fn=x.fn:=h1
 refine .idle (g':=G (Frame.enter x.P f args .normal) (bW b tmps ds (.inRegion ops (i::rest)::k)::cs)) rfl (fun w=>?_) ?_
 ·have:=AL (P:=x.P) (main:=sd x.m) (ds:=ds) (rest:=rest) (b:=b) (k:=k) (cs:=cs) (w:=w) ho (hw.wanted h4) hdf
  rw[show(sd x.m).b=x.m from rfl]at this
  rw[this,yY (fr:=bW b tmps ds (.inRegion ops (i::rest)::k)) (cs:=cs) (hr w) hk' ⟨_,_,_,rfl⟩,hfn,hes]
 ·refine H _ cs E fun v s' r=>?_
  obtain⟨p1,p2⟩:=h4.put' h5 hd v
  rw[eY (cs:=cs) ho v]
  exact r b k cs E _ h1 h2 h3 p1 p2 hc
end ops
end Go.aS

/- Walks through a library's code: how a function is left; functions by their bodies. Conditions: none; over any program. -/
namespace Go.aS
section
variable{P:Program}{m:Bool}{π:jM}{b:Frame}{t:Array Value}{cs:List Frame}{w:World}
end
end Go.aS

/- The protocol of a mutex and a wait group: what each act may do. Conditions: none; over any program. -/
namespace Go.aS
structure Grp where
 Wg:Nat
 tW:TypeId
 mu:Option (Nat×TypeId)

def cell0(b:Nat):Addr:=⟨b,0,none⟩
def cell1(b:Nat):Addr:=⟨b,1,none⟩
def BQ(t:TypeId)(x:kQ):Obj:=.cells #[.int .i32 (x.st:Int),.int .u32 (x.ms:Int)] t (0,0)
def DV.st(x:DV):Nat:=x.v*4294967296+x.w
def zo(t:TypeId)(x:DV):Obj:=.cells #[.int .u64 (x.st:Int),.int .u32 (x.ws:Int)] t (0,0)
def Grp.Mu(G:Grp):Nat:=match G.mu with | some p=>p.1 | none=>0

structure XS where
 m:kQ
 g:DV
 E:Nat

def kQ.set(x:kQ)(n:Nat):kQ:=⟨n % 2,n / 2 % 2,n / 4 % 2,n / 8,x.ms⟩
theorem kQ.wM(x:kQ)(n:Nat):(x.set n).st=n:=by unfold kQ.set kQ.st;simp only;omega
inductive LS where
 | mu (r:MR) (old:Option Nat) (B d ph:Nat)
 | wg (p:MP) (d:Nat)
 | dn (r:WR) (d:Nat)

inductive LA where
 | Fa | en | ask | clk | non
 | load | cas (o n:Nat) (r':MR) | Kr | uz (keep:Bool) | Hf | Bh | acq | rm
 | Rh | O0 | LG | IZ | O1 (o:Nat) | FH | DW | LH | Hg
 | Nl | wsub | BR | rF | tN

def qo(m:Mark):Event:=⟨.mark m,false,true⟩
def uD(a:Addr):Event:=⟨.cell a,false,true⟩
def yT(a:Addr):Event:=⟨.cell a,true,true⟩
def qy(a:Addr):Array Event:= #[qo .disable,uD a,yT a,qo .enable]

def TB(r r':MR)(y:kQ)(n:Nat):Prop:=
 match r,r' with
 | .out,.hold=>y.l=0∧y.s=0∧n=y.st+1
 | .FD,.hold=>y.l=0∧y.s=0∧y.w=1∧n+1=y.st
 | .out,.FD=>y.s=0∧y.w=0∧n=y.st+2
 | .out,.AP=>(y.l=1∨y.s=1)∧n=y.st+8
 | .FD,.AP=>y.l=1∧y.s=0∧y.w=1∧(n=y.st+6∨n=y.st+10)
 | .Nh,.rel=>0<y.n∧y.l=0∧y.w=0∧y.s=0∧n+6=y.st
 | _,_=>False

def eX(G:Grp)(a:LA)(s:LS):Prop:=
 match a,s with
 | .Fa,.mu _ _ _ _ _=>True
 | .Fa,.wg p _=>(∀o B,p≠ .wt o B)∧p≠ .out
 | .Fa,.dn _ _=>True
 | .en,.mu _ _ _ d _=>0<d
 | .en,.wg _ d=>0<d
 | .en,.dn _ d=>0<d
 | .ask,.mu .. =>True
 | .non,.mu .. =>True
 | .non,.wg p _=>p≠ .out
 | .non,.dn r _=>r= .live
 | .clk,.mu .. =>True
 | .load,.mu _ _ _ _ _=>G.mu≠none
 | .cas o n r',.mu r old _ d ph=>G.mu≠none∧0<d∧ph≠1∧(∃y:kQ,(y.l≤1∧y.w≤1∧y.s≤1)∧o=y.st∧TB r r' y n)∧(old=some o∨(r= .out∧r'= .hold∧old=none))
 | .Kr,.mu r _ _ d ph=>G.mu≠none∧0<d∧ph≠1∧r= .hold
 | .uz keep,.mu r old _ d ph=>G.mu≠none∧0<d∧ph≠1∧r= .hnd∧∃o,old=some o∧(keep=true→2≤o / 8)
 | .Hf,.mu r old _ d ph=>G.mu≠none∧0<d∧ph≠1∧r= .AP∧old=none
 | .Bh,.mu r _ _ d ph=>G.mu≠none∧0<d∧ph≠1∧(r= .rel∨r= .wK)
 | .acq,.mu r _ _ d ph=>G.mu≠none∧d=0∧ph=0∧r= .hold
 | .rm,.mu r _ _ d ph=>G.mu≠none∧d=0∧ph=1∧r= .hold
 | .Rh,.wg p _=>p= .add 0
 | .O0,.wg p d=>0<d∧p= .add 0
 | .LG,.wg p _=>∃t,p= .add t
 | .IZ,.wg p d=>0<d∧∃B,p= .wt none B
 | .O1 o,.wg p d=>0<d∧0<o∧∃B,p= .wt (some o) B
 | .FH,.wg p _=>p= .reg
 | .DW,.wg p d=>0<d∧p= .reg
 | .LH,.wg p d=>0<d∧p= .seen
 | .Hg,.wg p d=>d=0∧p= .seen
 | .Nl,.dn r d=>r= .live∧d=0
 | .wsub,.dn r d=>0<d∧r= .s1
 | .BR,.dn r d=>0<d∧r= .s2
 | .rF,.dn r d=>0<d∧r= .s3
 | .tN,.dn r d=>0<d∧r= .s4
 | _,_=>False

def MF(r:MR)(old:Option Nat)(B:Nat)(x:XS):Prop:=
 (x.m.l≤1∧x.m.w≤1∧x.m.s≤1)∧x.m.n≤64∧x.m.ms≤64∧(∀o,old=some o→x.E≤B∧(x.m.st≠o→x.E<B))∧(old=none→x.E<B)∧(r= .hold→x.m.l=1)∧(r= .FD→x.m.w=1∧x.m.s=0)∧
 (r= .tok→(x.m.s=0→x.m.w=1)∧(x.m.s=1→x.m.l=0∧x.m.w=0∧0<x.m.n))∧(r= .hnd→x.m.s=1∧x.m.l=0∧x.m.w=0∧0<x.m.n∧∀o,old=some o→o / 8≤x.m.n)
def WF(p:MP)(x:XS):Prop:=
 x.g.v≤64∧x.g.w≤1∧x.g.ws≤1∧
 match p with
 | .add t=>x.g.w=0∧x.g.ws=0∧t≤x.g.v
 | .wt old B=>x.g.w=0∧x.g.ws=0∧(old=none→x.g.v<B)∧(∀o,old=some o→o=B∧x.g.v≤B)
 | .reg=>0<x.g.ws→x.g.v=0∧x.g.w=0∧x.g.ws=1
 | .seen=>x.g.v=0∧x.g.w=0∧x.g.ws=0
 | .out=>True
def DF(r:WR)(x:XS):Prop:=
 x.g.v≤64∧x.g.w≤1∧x.g.ws≤1∧
 match r with
 | .s1=>0<x.g.v
 | .s2=>x.g.v=0∧x.g.w=1
 | .s3=>True
 | .s4=>x.g.ws=0
 | _=>True
def rG(_:LA)(s:LS)(x:XS):Prop:=
 match s with
 | .mu r old B _ _=>MF r old B x
 | .wg p _=>WF p x
 | .dn r _=>DF r x

def jk(a:LA)(x:XS):Prop:=
 match a with
 | .Hf=>x.m.ms=0
 | .DW=>x.g.ws=0
 | _=>False

def Hl(x:kQ):MR:=if x.s=1 then .wK else if x.n=0∨x.w=1 then .fin else .Nh
def kE(r:MR)(x:kQ):MR:=match r with
 | .tok=>if x.s=1 then .hnd else .FD
 | .Nh=>if x.n=0∨x.l=1∨x.w=1∨x.s=1 then .fin else .Nh
 | r=>r
def oP(a:LA)(s:LS)(x:XS)(s':LS):Prop:=
 match a,s with
 | .Fa,.mu r o B d ph=>s'= .mu r o B (d+1) ph
 | .Fa,.wg p d=>s'= .wg p (d+1)
 | .Fa,.dn r d=>s'= .dn r (d+1)
 | .en,.mu r o B d ph=>s'= .mu r o B (d-1) ph
 | .en,.wg p d=>s'= .wg p (d-1)
 | .en,.dn r d=>s'= .dn r (d-1)
 | .load,.mu r _ _ d ph=>s'= .mu (kE r x.m) (some x.m.st) x.E d ph
 | .cas o _ r',.mu r _ B d ph=>s'=if x.m.st=o then .mu r' none B d ph else .mu r none B d ph
 | .Kr,.mu _ _ _ d ph=>s'= .mu (Hl x.m) (some (x.m.st-1)) x.E d ph
 | .uz _,.mu _ _ _ d ph=>s'= .mu .hold none x.E d ph
 | .Hf,.mu _ _ B d ph=>s'= .mu .tok none B d ph
 | .Bh,.mu _ _ _ d ph=>s'= .mu .fin none x.E d ph
 | .acq,.mu r o B d _=>s'= .mu r o B d 1
 | .rm,.mu r o B d _=>s'= .mu r o B d 2
 | .Rh,.wg _ d=>s'= .wg (.wt none (x.g.v+1)) (d+1)
 | .O0,.wg _ d=>s'= .wg (.add 1) d
 | .IZ,.wg _ d=>s'=if x.g.v=0 then .wg .seen d else .wg (.wt (some x.g.v) x.g.v) d
 | .O1 o,.wg _ d=>s'=if x.g.v=o then .wg .reg d else .wg (.wt none o) d
 | .DW,.wg _ d=>s'= .wg .seen d
 | .Hg,.wg _ d=>s'= .wg .out d
 | .Nl,.dn _ d=>s'= .dn .s1 d
 | .wsub,.dn _ d=>s'=if x.g.v=1∧x.g.w=1 then .dn .s2 d else .dn .gone d
 | .BR,.dn _ d=>s'= .dn .s3 d
 | .rF,.dn _ d=>s'= .dn .s4 d
 | .tN,.dn _ d=>s'= .dn .gone d
 | _,s=>s'=s

def gJ(G:Grp)(a:LA)(x:XS)(w:World):World:=
 match a with
 | .ask=>w.asked
 | .clk=>w.later
 | .cas o n _=>if x.m.st=o then w.setCell (cell0 G.Mu) (.int .i32 (n:Int))else w
 | .Kr=>w.setCell (cell0 G.Mu) (.int .i32 ((x.m.st-1:Nat):Int))
 | .uz keep=>w.setCell (cell0 G.Mu) (.int .i32 ((x.m.st- (if keep then 7 else 11):Nat):Int))
 | .Hf=>w.setCell (cell1 G.Mu) (.int .u32 ((x.m.ms-1:Nat):Int))
 | .Bh=>w.setCell (cell1 G.Mu) (.int .u32 ((x.m.ms+1:Nat):Int))
 | .O0=>w.setCell (cell0 G.Wg) (.int .u64 ((x.g.st+4294967296:Nat):Int))
 | .O1 o=>if x.g.v=o then w.setCell (cell0 G.Wg) (.int .u64 ((x.g.st+1:Nat):Int))else w
 | .DW=>w.setCell (cell1 G.Wg) (.int .u32 ((x.g.ws-1:Nat):Int))
 | .wsub=>w.setCell (cell0 G.Wg) (.int .u64 ((x.g.st-4294967296:Nat):Int))
 | .rF=>w.setCell (cell0 G.Wg) (.int .u64 0)
 | .tN=>w.setCell (cell1 G.Wg) (.int .u32 ((x.g.ws+1:Nat):Int))
 | _=>w

def bT(G:Grp)(a:LA)(x:XS):Array Event:=
 match a with
 | .Fa=> #[qo .disable]
 | .Rh=> #[qo .disable]
 | .en=> #[qo .enable]
 | .ask=> #[]
 | .non=> #[]
 | .clk=> #[]
 | .load=> #[]
 | .cas o _ _=>if x.m.st=o then #[uD (cell0 G.Mu),yT (cell0 G.Mu)]else #[uD (cell0 G.Mu)]
 | .Kr=> #[uD (cell0 G.Mu),yT (cell0 G.Mu)]
 | .uz _=> #[uD (cell0 G.Mu),yT (cell0 G.Mu)]
 | .Hf=>qy (cell1 G.Mu)
 | .Bh=>qy (cell1 G.Mu)
 | .acq=> #[qo (.acquire (cell0 G.Mu))]
 | .rm=> #[qo (.releaseMerge (cell0 G.Mu))]
 | .O0=> #[uD (cell0 G.Wg),yT (cell0 G.Wg)]
 | .LG=> #[qo (.read (cell1 G.Wg))]
 | .IZ=> #[uD (cell0 G.Wg)]
 | .O1 o=>if x.g.v=o then #[uD (cell0 G.Wg),yT (cell0 G.Wg)]else #[uD (cell0 G.Wg)]
 | .FH=> #[qo (.write (cell1 G.Wg))]
 | .DW=>qy (cell1 G.Wg)
 | .LH=> #[uD (cell0 G.Wg)]
 | .Hg=> #[qo (.acquire (cell0 G.Wg))]
 | .Nl=> #[qo (.releaseMerge (cell0 G.Wg))]
 | .wsub=> #[uD (cell0 G.Wg),yT (cell0 G.Wg)]
 | .BR=> #[uD (cell0 G.Wg)]
 | .rF=> #[yT (cell0 G.Wg)]
 | .tN=>qy (cell1 G.Wg)

def rH(a:LA):Prop:=a= .Bh∨a= .tN

def uF(G:Grp)(w:World)(x:XS):Prop:=(∀p,G.mu=some p→w.heap[p.1]? =some (BQ p.2 x.m))∧w.heap[G.Wg]? =some (zo G.tW x.g)

def aJ(G:Grp):jM where
 S:=LS
 A:=LA
 X:=XS
 at_:=uF G
 can:=eX G
 rel:=rG
 blk:=jk
 WO:=oP
 wld:=gJ G
 evs:=bT G
 wak:=rH
 free:=fun a=>a= .Fa∨a= .en
end Go.aS

/- What goroutines list, with words that bind: a trace without races. Conditions: none; over any program. -/
namespace Go.aS
open Go.Conc (Before Knows knows_own touchAt touchAt_of touchAt_old noRace_append getElem?_append_old getElem?_append_cases lt_size_of_getElem? touch_of hb_po mem_of_getElem? hb_app ofEvents_eq Deaf deaf_old g?_old act?_old heard_old lt_of_act? Deaf_own Deaf_other)
structure TK(t:Trace)(n size:Nat)(dv:Nat→Nat):Prop where
 norel:∀op∈t,∀a,op.act≠ .mark (.release a)
 clean:∀said,¬Race said t
 below:∀i a b,touchAt t i=some a→In a.loc b→b<size
 who:∀op∈t,op.g<n
 deaf:∀g,Deaf t g=dv g
 said:∀i a,touchAt t i=some a→a.kind= .said→t.g? i=some 0

def Zn(t:Trace)(g b:Nat):Prop:=∀i a,touchAt t i=some a→In a.loc b→a.kind= .plain→Knows t g i
theorem Own.Ri{t:Trace}{g b:Nat}(h:Own t g b):Zn t g b:=fun i a h1 h2 _=>h i a h1 h2
theorem Zn.app{t u:Trace}{g b:Nat}(h:Zn t g b)(hu:∀op∈u,∀a,op.act.touch? =some a→In a.loc b→a.kind= .plain→op.g=g):Zn (t++u) g b:=by
 intro i a ha hl hp
 rcases fP ha with⟨hi,h1⟩ | ⟨op,ho,hm,h1⟩
 ·exact(h i a h1 hl hp).app u
 ·have:=knows_own ho
  rwa[hu op hm a h1 hl hp]at this

theorem TK.empty{n size:Nat}:TK #[] n size (fun _=>0):=
 ⟨fun op h=>by simp at h,fun said ⟨i,j,hij,⟨a,b,ha,_⟩,_⟩=>by simp[Trace.act?]at ha,fun i a b h=>by simp[touchAt,Trace.act?]at h,fun op h=>by simp at h,fun g=>rfl,fun i a h=>by simp[touchAt,Trace.act?]at h⟩

theorem TK.heard{t:Trace}{n size:Nat}{dv:Nat→Nat}(h:TK t n size dv){u:Trace}{z:MemOp}{r:Nat}(hz:(t++u)[t.size]? =some z)(hd:dv z.g=0):(t++u).heard t.size:=
 ⟨z.g,by simp[Trace.g?,hz],by rw[deaf_old (Nat.le_refl _)];exact(h.deaf z.g).trans hd⟩

theorem O3{t u:Trace}(h:∀i a,touchAt t i=some a→a.kind= .said→t.g? i=some 0)(hu:∀op∈u,∀a,op.act.touch? =some a→a.kind= .said→op.g=0):∀i a,touchAt (t++u) i=some a→a.kind= .said→(t++u).g? i=some 0:=by
 intro i a ha hs
 rcases fP ha with⟨hi,h1⟩ | ⟨op,ho,hm,h1⟩
 ·rw[g?_old hi];exact h i a h1 hs
 ·simp[Trace.g?,ho,hu op hm a h1 hs]

section step
variable{t u:Trace}{n n' j:Nat}{dv:Nat→Nat}{k:Hp}{M:Nat→Prop}{w w':World}{es:Array Event}{fn:FuncId}{pos:String}
theorem deaf_quiet(he:∀e∈es,∀m,MemAct.ofEvent e= .mark m→Fg m=true)(g:Nat):Deaf (t++MemOp.ofEvents j fn pos es) g=Deaf t g:=by
 refine Go.ConcN.Deaf_still t g _ fun op hop=>?_
 obtain⟨e,h1,rfl⟩:=mem_ofEvents hop
 exact⟨fun h=>(by have:=he e h1 _ h;cases this),fun h=>(by have:=he e h1 _ h;cases this)⟩

theorem TK.step(h:TK t n w.heap.size dv)(hj:j<n)(hk:yF k w)(g:dX k M w w' es)(hO:∀b,M b→isC (k b)=false→Own t j b)(hR:∀b,(k b).isSome=true→isC (k b)=false→Rd t j b):
  TK (t++MemOp.ofEvents j fn pos es) n w'.heap.size dv:=by
 refine⟨fun op hop a hm=>?_,fun said=>?_,fun i a b ha hb=>?_,fun op hop=>?_,fun x=>?_,O3 h.said fun op hop a ha hs=>?_⟩
 ·rcases Array.mem_append.1 hop with h1 | h1
  ·exact h.norel op h1 a hm
  ·obtain⟨e,he,rfl⟩:=mem_ofEvents h1
   have:=IY (g.evs e he) hm
   cases this
 ·refine noRace_append (h.clean said) (fun op hop=>by obtain⟨e,_,rfl⟩:=mem_ofEvents hop;rfl) fun i a ha op hop b hb hc=>?_
  obtain⟨e,he,rfl⟩:=mem_ofEvents hop
  obtain⟨bl,h1,_,h3,h4,h5⟩:=pz (g.evs e he) hb
  have hin:In a.loc bl:=by rw[hc.1];exact h1
  rcases h5 with⟨h5,h6,h7⟩ | h5
  ·cases hw:b.write with
   | true=>exact hO bl (h7 hw) h6 i a ha hin
   | false=>
    have haw:a.write=true:=by
     rcases hc.2.2.1 with h | h
     ·exact h
     ·rw[hw]at h;cases h
    exact hR bl h5 h6 i a ha hin haw
  ·exact absurd (h.below i a bl ha hin) (by omega)
 ·rcases fP ha with⟨_,h1⟩ | ⟨op,_,hm,h1⟩
  ·exact Nat.lt_of_lt_of_le (h.below i a b h1 hb) g.size
  ·obtain⟨e,he,rfl⟩:=mem_ofEvents hm
   obtain⟨bl,_,h2,_,_,h5⟩:=pz (g.evs e he) h1
   obtain rfl:=h2 b hb
   rcases h5 with⟨h5,_⟩ | h5
   ·obtain⟨o,ho⟩:=Option.isSome_iff_exists.1 h5
    exact Nat.lt_of_lt_of_le (hk.lt ho) g.size
   ·exact h5.2
 ·rcases Array.mem_append.1 hop with h1 | h1
  ·exact h.who op h1
  ·obtain⟨e,_,rfl⟩:=mem_ofEvents h1
   exact hj
 ·rw[deaf_quiet (fun e he m hm=>IY (g.evs e he) hm)];exact h.deaf x
 ·obtain⟨e,he,rfl⟩:=mem_ofEvents hop
  obtain⟨_,_,_,h3,_⟩:=pz (g.evs e he) ha
  rw[h3]at hs;cases hs

theorem WT(hb':∀i a b,touchAt t i=some a→In a.loc b→b<w.heap.size)(b:Nat)(hb:grown M w w' b)(hO:M b→Own t j b):Own (t++MemOp.ofEvents j fn pos es) j b:=by
 refine Own.app ?_ fun op hop _ _ _=>by obtain⟨e,_,rfl⟩:=mem_ofEvents hop;rfl
 rcases hb with hb | hb
 ·exact hO hb
 ·exact fun i a ha hl=>absurd (hb' i a b ha hl) (by omega)
theorem Zo(hb':∀i a b,touchAt t i=some a→In a.loc b→b<w.heap.size)(hR:∀b,(k b).isSome=true→isC (k b)=false→Rd t j b):∀b,(snap k w w' b).isSome=true→isC (snap k w w' b)=false→Rd (t++MemOp.ofEvents j fn pos es) j b:=by
 intro b hb hc
 refine Rd.app ?_ fun op hop _ _ _ _=>by obtain⟨e,_,rfl⟩:=mem_ofEvents hop;rfl
 by_cases hk:(k b).isSome=true
 ·exact hR b hk (OX b hc)
 ·have hkn:k b=none:=by simpa using hk
  have:w.heap.size≤b:=by
   simp only[snap,hkn,isC]at hb
   by_cases h3:w.heap.size≤b∧b<w'.heap.size
   ·exact h3.1
   ·have h7:(decide (w.heap.size≤b)&&decide (b<w'.heap.size))=false:=by simpa using h3
    simp[h7]at hb
  exact fun i a ha hl=>absurd (hb' i a b ha hl) (by omega)
theorem O4(g:dX k M w w' es){b:Nat}(hb:b<w.heap.size)(hn:(k b).isSome=true→isC (k b)=true):∀op∈MemOp.ofEvents j fn pos es,∀a,op.act.touch? =some a→¬In a.loc b:=by
 intro op hop a ha hl
 obtain⟨e,he,rfl⟩:=mem_ofEvents hop
 obtain⟨bl,_,h2,_,_,h5⟩:=pz (g.evs e he) ha
 obtain rfl:=h2 b hl
 rcases h5 with⟨h5,h6,_⟩ | h5
 ·rw[hn h5]at h6;cases h6
 ·omega

structure Kt(t:Trace)(j size:Nat)(u:Trace):Prop where
 g:∀op∈u,op.g=j
 touch:∀op∈u,∀a,op.act.touch? =some a→a.kind≠ .plain∧(a.kind= .said→j=0)∧∃b,In a.loc b∧(∀b',In a.loc b'→b'=b)∧b<size∧Zn t j b
 norel:∀op∈u,∀a,op.act≠ .mark (.release a)

theorem TK.sh{size size':Nat}{Y_:Nat→Nat}(h:TK t n size dv)(hj:j<n)(hn:n≤n')(hs:size≤size')(hu:Kt t j size u)(hd:∀g,Deaf (t++u) g=Y_ g):TK (t++u) n' size' Y_:=by
 refine⟨fun op hop a hm=>?_,fun said=>?_,fun i a b ha hb=>?_,fun op hop=>?_,hd,O3 h.said fun op hop a ha hsd=>?_⟩
 ·rcases Array.mem_append.1 hop with h1 | h1
  ·exact h.norel op h1 a hm
  ·exact hu.norel op h1 a hm
 ·refine noRace_append (h.clean said) hu.g fun i a ha op hop b hb hc=>?_
  obtain⟨h1,h2,bl,h3,_,_,h4⟩:=hu.touch op hop b hb
  have hin:In a.loc bl:=by rw[hc.1];exact h3
  rcases hc.2.2.2 with h5 | h5 | ⟨_,h5,h6⟩
  ·exact h4 i a ha hin h5
  ·exact absurd h5 h1
  ·have h7:=h.said i a ha h5
   obtain rfl:=h2 h6
   obtain⟨x,hx,_⟩:=touch_of ha
   have:=knows_own hx
   simp only[Trace.g?,hx,Option.map_some,Option.some.injEq]at h7
   rwa[h7]at this
 ·rcases fP ha with⟨_,h1⟩ | ⟨op,_,hm,h1⟩
  ·exact Nat.lt_of_lt_of_le (h.below i a b h1 hb) hs
  ·obtain⟨_,_,bl,_,h3,h4,_⟩:=hu.touch op hm a h1
   rw[h3 b hb];omega
 ·rcases Array.mem_append.1 hop with h1 | h1
  ·exact Nat.lt_of_lt_of_le (h.who op h1) hn
  ·rw[hu.g op h1];omega
 ·rw[hu.g op hop];exact(hu.touch op hop a ha).2.1 hsd

theorem Kt.own{size:Nat}(hu:Kt t j size u){g b:Nat}(h:Own t g b)(hb:∀op∈u,∀a,op.act.touch? =some a→¬In a.loc b):Own (t++u) g b:=h.app fun op hop a ha hl=>absurd hl (hb op hop a ha)
theorem Kt.rd{size:Nat}(hu:Kt t j size u){g b:Nat}(h:Rd t g b)(hb:∀op∈u,∀a,op.act.touch? =some a→¬In a.loc b):Rd (t++u) g b:=h.app fun op hop a ha hl _=>absurd hl (hb op hop a ha)
theorem Kt.Ri{size:Nat}(hu:Kt t j size u){g b:Nat}(h:Zn t g b):Zn (t++u) g b:=h.app fun op hop a ha _ hp=>absurd hp (hu.touch op hop a ha).1

theorem O5{z:MemOp}{p:Nat}{a:Addr}(hn:∀op∈t,∀a,op.act≠ .mark (.release a))(hp:t.act? p=some (.mark (.releaseMerge a)))(hh:t.heard p)(hz:z.act= .mark (.acquire a))(hd:Deaf t z.g=0):HappensBefore (t++ #[z]) p t.size:=by
 have hq:(t++ #[z])[t.size]? =some z:=by simp
 have hlt:=lt_of_act? hp
 refine .single (.inr ⟨.marked hlt (.inr (by rw[act?_old hlt];exact hp)) (by simp[Trace.act?,hq,hz]) (fun k _ _ hk=>?_),(heard_old hlt).2 hh,⟨z.g,by simp[Trace.g?,hq],by rw[deaf_old (Nat.le_refl _)];exact hd⟩⟩)
 obtain⟨op,ho,hoa⟩:=Option.map_eq_some_iff.1 hk
 rcases Array.mem_append.1 (mem_of_getElem? ho)with h1 | h1
 ·exact hn op h1 a hoa
 ·obtain rfl:op=z:=by simpa using h1
  rw[hz]at hoa;cases hoa
theorem DY{z:MemOp}{p i:Nat}{a:Addr}(hn:∀op∈t,∀a,op.act≠ .mark (.release a))(hp:t.act? p=some (.mark (.releaseMerge a)))(hh:t.heard p)(hz:z.act= .mark (.acquire a))(hd:Deaf t z.g=0)(hb:Before t i p):Knows (t++ #[z]) z.g i:=
 ⟨t.size,z,by simp,rfl,.inr ((hb.app #[z]).hb (O5 hn hp hh hz hd))⟩
theorem Own.before{g b:Nat}(h:Own t g b){y:MemOp}(hy:y.g=g){i:Nat}{a:Touch}(ha:touchAt t i=some a)(hl:In a.loc b):Before (t++ #[y]) i t.size:=
 .inr ((h i a ha hl).hb_new (Nat.le_refl _) (by simp) hy)
end step
end Go.aS

/- Goroutines that send over a channel of their own. Conditions: none; over any program. -/
namespace Go.aS
open Go.Conc (crowd parked rcase scase QuitsIn Before Knows knows_own touchAt touchAt_of touchAt_old getElem?_append_old getElem?_append_cases lt_size_of_getElem? touch_of hb_po hb_app ofEvents_eq woken)
def hset(k:Hp)(c:Nat)(o:Obj):Hp:=⟨fun b=>if b=c then some o else k b,k.z⟩
def Dom(k:Hp)(M:Nat→Prop):Prop:=∀b,M b→(k b).isSome=true

/-! ### How far a sender is -/
inductive KC where
 | run (g:Goroutine) (k:Hp) (M:Nat→Prop)
 | acV (k:Hp) (M:Nat→Prop)
 | quit (n:Nat)

inductive KR(P:Program)(c:Nat):KC→KC→Prop
 | step {g g':Goroutine} {k:Hp} {M:Nat→Prop} {w w':World} {es:Array Event} {s r:Nat} (ha:yF k w) (hd:Dom k M) (ho:w.heap[c]? =some (.chan 0 #[] false s r false)) (e:stepG P false g w= .go g' w' es) (hg:dX k M w w' es):KR P c (.run g' (snap k w w') (grown M w w')) (.run g k M)
 | acV {g:Goroutine} {k:Hp} {M:Nat→Prop}:KR P c (.acV k M) (.run g k M)
 | quit {g:Goroutine} {k:Hp} {M:Nat→Prop} {n:Nat}:KR P c (.quit n) (.run g k M)
 | quits {n:Nat}:KR P c (.quit n) (.quit (n+1))

inductive LR(P:Program):List (Nat×KC)→List (Nat×KC)→Prop
 | here {c:Nat} {x x':KC} {l:List (Nat×KC)} (h:KR P c x' x):LR P ((c,x')::l) ((c,x)::l)
 | there {y:Nat×KC} {l l':List (Nat×KC)} (h:LR P l' l):LR P (y::l') (y::l)

theorem LR.at{P:Program}{c:Nat}{x x':KC}(h:KR P c x' x):∀{l:List (Nat×KC)} {i:Nat},l[i]? =some (c,x)→LR P (l.set i (c,x')) l
 | [],i,e=>by simp at e
 | y::l,0,e=>by
  simp only[List.getElem?_cons_zero,Option.some.injEq]at e
  subst e
  exact .here h
 | y::l,i+1,e=>.there (LR.at h (by simpa using e))

/-! ### small laws -/
theorem bH(k:Hp)(c:Nat)(o:Obj):hset k c o c=some o:=by simp[hset]
theorem bY(k:Hp){c b:Nat}(o:Obj)(h:b≠c):hset k c o b=k b:=by simp[hset,h]
theorem WU{k:Hp}{c b:Nat}{o o':Obj}(h:k c=some o')(ho':o'.isChan=true)(ho:o.isChan=true):isC (hset k c o b)=isC (k b)∧(hset k c o b).isSome=(k b).isSome:=by
 by_cases hb:b=c
 ·subst hb;simp[bH,h,isC,ho,ho']
 ·rw[bY _ _ hb];exact⟨rfl,rfl⟩

end Go.aS

/- Workers of a group, and the one that starts them and waits: their trees of steps, and what is said of the shared blocks. Conditions: none; over any program. -/
namespace Go.aS
open Go.Conc (QuitsIn QuitsD)
structure GP extends Grp where
 C:Nat
 J:List Nat→Obj→Prop
 tag:Nat→Option Nat
 R:Nat→ah→Prop

inductive GR where
 | out
 | hold (l:List Nat)
 | fin
def gK:GR→Obj
 | .out=>.chan 2 #[] true 0 0 false
 | .hold l=>.chan 2 (l.map fun(n:Nat)=>Value.int .i64 (n:Int)).toArray true 1 0 false
 | .fin=>.chan 2 #[] true 2 0 false
theorem nH{r r':GR}(h:gK r=gK r'):r=r':=by
 cases r <;>cases r' <;>simp only[gK,Obj.chan.injEq,reduceCtorEq,false_and,and_false,Nat.reduceEqDiff]at h <;>try rfl
 all_goals first | (exfalso;revert h;simp;done) | skip
 rename_i l l'
 have h1:=congrArg Array.toList h.2.1
 have h2:=congrArg (List.map fun v=>match v with | Value.int _ n=>n.toNat | _=>0) h1
 have:l=l':=by simpa[List.map_map,Function.comp_def]using h2
 rw[this]
def sK(t j left:Nat):Obj:=.chan (t+3) #[] false j left false
def Bj:Obj:=.chan 3 #[] true 0 0 false
theorem vg(t j l:Nat):kN (sK t j l)=true:=by simp[sK,kN,Nat.ble_eq]
theorem Np{t j l t' j' l':Nat}(h:sK t j l=sK t' j' l'):t=t'∧j=j'∧l=l':=by
 simp only[sK,Obj.chan.injEq]at h
 omega

def hdel(k:Hp)(b:Nat):Hp:=⟨fun x=>if x=b then none else k x,k.z⟩
def xX(k:Hp)(F:ah):Hp:=⟨fun x=>if(F.lookup x).isSome then none else k x,k.z⟩
def hadd(k:Hp)(F:ah):Hp:=⟨fun b=>match F.lookup b with | some o=>some o | none=>k b,k.z⟩

inductive dB(P:Program)(m:Bool)(π:jM)(E:π.S→Goroutine→Prop):π.S→Goroutine→Type
 | exit {s:π.S} {g:Goroutine} (hs:g.status= .running) (h:E s g):dB P m π E s g
 | idle {s:π.S} {g g':Goroutine} (hs:g.status= .running) (e:∀w,stepG P m g w= .go g' w #[]) (h:dB P m π E s g'):dB P m π E s g
 | act {s:π.S} {g:Goroutine} (a:π.A) (hs:g.status= .running) (hc:π.can a s) (ho:g.offers=none)
   (wait:∀w x,π.at_ w x→π.rel a s x→π.blk a x→stepG P m g w= .go {g with status:=.blocked} w #[])
   (ok:∀w x,π.at_ w x→π.rel a s x→¬π.blk a x→∃g',stepG P m g w= .go g' (π.wld a x w) (π.evs a x)∧g'.status= .running)
   (wk:π.wak a→mayWake P g=true) (fr:π.free a→∃g' es,(∀e∈es,Event.mute e=true)∧∀w,stepG P m g w= .go g' w es)
   (h:∀w x g' w' es s',π.at_ w x→π.rel a s x→¬π.blk a x→stepG P m g w= .go g' w' es→π.WO a s x s'→dB P m π E s' g'):dB P m π E s g
theorem jJ.tree{P:Program}{m:Bool}{π:jM}{E:π.S→Goroutine→Prop}{s:π.S}{g:Goroutine}(T:jJ P m π E s g):Nonempty (dB P m π E s g):=by
 induction T with
 | exit hs h=>exact⟨.exit hs h⟩
 | idle hs e _ ih=>exact ih.elim fun t=>⟨.idle hs e t⟩
 | act a hs hc ho wait ok wk fr _ ih=>exact⟨.act a hs hc ho wait ok wk fr fun w x g' w' es s' h1 h2 h3 h4 h5=>Classical.choice (ih w x g' w' es s' h1 h2 h3 h4 h5)⟩

theorem dB.status{P:Program}{m:Bool}{π:jM}{E:π.S→Goroutine→Prop}{s:π.S}{g:Goroutine}(T:dB P m π E s g):g.status= .running:=by cases T <;>assumption
def Gone(P:Program)(s:LS)(g:Goroutine):Prop:=s= .dn .gone 0∧∃n,QuitsIn P n g

inductive yU(P:Program)(γ:GP)(j:Nat):Goroutine→Hp→(Nat→Prop)→Type
 | step {g:Goroutine} {k:Hp} {M:Nat→Prop} (hs:g.status= .running)
   (ok:∀w,yF k w→Dom k M→∃g' w' es,stepG P false g w= .go g' w' es∧dX k M w w' es)
   (h:∀w g' w' es,yF k w→Dom k M→stepG P false g w= .go g' w' es→yU P γ j g' (snap k w w') (grown M w w')):yU P γ j g k M
 | lock {g:Goroutine} {k:Hp} {M:Nat→Prop} (hm:γ.mu≠none) (hk:k γ.Mu=some (gK .out)) (hM:M γ.Mu) (E:LS→Goroutine→Prop)
   (T:∀B,dB P false (aJ γ.toGrp) E (.mu .out none B 0 0) g) (hE:∀s g',E s g'→∃o B,s= .mu .hold o B 0 1)
   (h:∀s g' l c,E s g'→γ.J l c→k γ.C=none→¬M γ.C→yU P γ j g' (hset (hset k γ.Mu (gK (.hold l))) γ.C c) (fun b=>M b∨b=γ.C)):yU P γ j g k M
 | unlock {g:Goroutine} {k:Hp} {M:Nat→Prop} {l:List Nat} {c:Obj} {t:Nat} (hm:γ.mu≠none) (hk:k γ.Mu=some (gK (.hold l))) (hM:M γ.Mu) (hC:k γ.C=some c) (Ho:M γ.C) (ht:γ.tag j=some t) (hJ:γ.J (t::l) c) (E:LS→Goroutine→Prop)
   (T:∀B,dB P false (aJ γ.toGrp) E (.mu .hold none B 0 1) g) (hE:∀s g',E s g'→∃o B,s= .mu .fin o B 0 2)
   (h:∀s g',E s g'→yU P γ j g' (hdel (hset k γ.Mu (gK .fin)) γ.C) (fun b=>M b∧b≠γ.C)):yU P γ j g k M
 | done {g:Goroutine} {k:Hp} {M:Nat→Prop} (hk:γ.tag j=none∨(γ.mu≠none∧k γ.Mu=some (gK .fin))) (A:ah) (hA:∀b o,(b,o)∈A→k b=some o∧M b∧o.isChan=false) (hn:(A.map (·.1)).Nodup) (hR:γ.R j A)
   (T:dB P false (aJ γ.toGrp) (Gone P) (.dn .live 0) g):yU P γ j g k M
abbrev Wk(P:Program)(γ:GP)(j:Nat)(g:Goroutine)(k:Hp)(M:Nat→Prop):Prop:=Nonempty (yU P γ j g k M)

theorem yU.status{P:Program}{γ:GP}{j:Nat}{g:Goroutine}{k:Hp}{M:Nat→Prop}(T:yU P γ j g k M):g.status= .running:=by
 cases T with
 | step hs _ _=>exact hs
 | lock _ _ _ _ T _ _=>exact(T 0).status
 | unlock _ _ _ _ _ _ _ _ T _ _=>exact(T 0).status
 | done _ _ _ _ _ T=>exact T.status
def back(γ:GP)(c:Obj)(As:List ah):ah:=(if γ.mu=none then[]else[(γ.C,c)])++As.flatten

inductive wO(P:Program)(γ:GP)(Ex:Goroutine→Hp→(Nat→Prop)→Prop):Goroutine→Hp→(Nat→Prop)→Prop
 | exit {g:Goroutine} {k:Hp} {M:Nat→Prop} (hk:k γ.Wg=some Bj) (h:Ex g (hdel k γ.Wg) (fun b=>M b∧b≠γ.Wg)):wO P γ Ex g k M
 | step {g:Goroutine} {k:Hp} {M:Nat→Prop} (hs:g.status= .running)
   (ok:∀w,yF k w→Dom k M→∃g' w' es,stepG P true g w= .go g' w' es∧dX k M w w' es)
   (h:∀w g' w' es,yF k w→Dom k M→stepG P true g w= .go g' w' es→wO P γ Ex g' (snap k w w') (grown M w w')):wO P γ Ex g k M
 | add {g:Goroutine} {k:Hp} {M:Nat→Prop} {j left:Nat} (hk:k γ.Wg=some (sK 0 j left)) (hM:M γ.Wg) (E:LS→Goroutine→Prop)
   (T:jJ P true (aJ γ.toGrp) E (.wg (.add 0) 0) g) (hE:∀s g',E s g'→s= .wg (.add 1) 0)
   (h:∀s g',E s g'→wO P γ Ex g' (hset k γ.Wg (sK 1 j left)) M):wO P γ Ex g k M
 | spawn {g g' child:Goroutine} {k kc:Hp} {M M':Nat→Prop} {j left:Nat} {A:ah} (hs:g.status= .running) (hs':g'.status= .running) (hsc:child.status= .running)
   (e:∀w,stepG P true g w= .spawn g' child w #[]) (hk:k γ.Wg=some (sK 1 j (left+1))) (hM:M γ.Wg)
   (hsub:(γ.mu≠none→k γ.Mu=none)→∀b o,kc b=some o→(b=γ.Mu∧γ.mu≠none∧γ.tag j≠none∧o=gK .out)∨(k b=some o∧o.isChan=false)) (hmu:γ.tag j≠none→γ.mu≠none∧kc γ.Mu=some (gK .out)) (hmn:(γ.mu≠none→k γ.Mu=none)→γ.mu≠none→γ.tag j=none→kc γ.Mu=none)
   (hA:(γ.mu≠none→k γ.Mu=none)→∀b o,(b,o)∈A→kc b=some o∧k b=some o∧M b∧o.isChan=false)
   (hc:(γ.mu≠none→k γ.Mu=none)→Wk P γ j child kc fun b=>(b=γ.Mu∧γ.tag j≠none)∨∃o,(b,o)∈A)
   (hM':Less k M' M) (WV:M' γ.Wg) (hsep:∀b,(γ.mu≠none→b≠γ.Mu)→(kc b).isSome=true→¬M' b)
   (h:wO P γ Ex g' (hset (xX k A) γ.Wg (sK 0 (j+1) left)) M'):wO P γ Ex g k M
 | wait {g:Goroutine} {k:Hp} {M:Nat→Prop} {j left:Nat} (hk:k γ.Wg=some (sK 0 j left)) (hM:M γ.Wg) (E:LS→Goroutine→Prop)
   (T:jJ P true (aJ γ.toGrp) E (.wg (.add 0) 0) g) (hE:∀s g',E s g'→s= .wg .out 0)
   (
    h:∀s g' l c As,E s g'→As.length=j→(∀(i:Nat) (A:ah),As[i]? =some A→γ.R i A)→(γ.mu≠none→γ.J l c∧l.Perm ((List.range j).filterMap γ.tag))→
    ((back γ c As).map (·.1)).Nodup→(∀b o,(b,o)∈back γ c As→k b=none∧¬M b∧o.isChan=false)→
    wO P γ Ex g' (hset (hadd k (back γ c As)) γ.Wg Bj) (fun b=>M b∨∃o,(b,o)∈back γ c As)):wO P γ Ex g k M
end Go.aS

/- The memory and the trace of many goroutines, each with what it knows and may write: kept by own steps, by acts on shared blocks, by handing over. Conditions: none; over any program. -/
namespace Go.aS
open Go.Conc (Before Knows knows_own touchAt touchAt_of touchAt_old noRace_append getElem?_append_old getElem?_append_cases lt_size_of_getElem? touch_of hb_po mem_of_getElem? hb_app ofEvents_eq Deaf deaf_old g?_old act?_old heard_old lt_of_act? Deaf_own Deaf_other)
def Apart(M:Nat→Prop)(k:Hp):Prop:=∀b,M b→(k b).isSome=true→isC (k b)=true

theorem yF.rely{k k':Hp}{M:Nat→Prop}{w w':World}{es:Array Event}(ha:yF k' w)(g:dX k M w w' es)(hap:Apart M k'):yF k' w':=by
 intro b o ho
 obtain⟨o',h1,h2⟩:=ha b o ho
 by_cases hm:M b
 ·have hc:o.isChan=true:=by
   have:=hap b hm (by rw[ho];rfl)
   rw[ho]at this
   exact this
  rcases h2 with h2 | ⟨_,h2 | h2⟩
  ·exact⟨o',g.chans b o' h1 (by rw[h2];exact hc),.inl h2⟩
  ·exact⟨o',g.chans b o' h1 h2,.inr ⟨hc,.inl h2⟩⟩
  ·have hlt:=Nat.lt_of_lt_of_le (m_ h1) g.size
   exact⟨w'.heap[b],Array.getElem?_eq_getElem hlt,.inr ⟨hc,.inr h2⟩⟩
 ·exact⟨o',by rw[g.keep b (m_ h1) hm];exact h1,h2⟩

theorem O6{k:Hp}{M:Nat→Prop}{w w':World}(h:Apart M k)(ha:yF k w):Apart (grown M w w') k:=by
 intro b hb hs
 rcases hb with hb | hb
 ·exact h b hb hs
 ·obtain⟨o,ho⟩:=Option.isSome_iff_exists.1 hs
  have:=ha.lt ho
  omega
theorem Rj{k k':Hp}{M':Nat→Prop}{w w':World}(h:Apart M' k)(hd:Dom k' M')(ha:yF k' w):Apart M' (snap k w w'):=by
 intro b hb hs
 obtain⟨o,ho⟩:=Option.isSome_iff_exists.1 (hd b hb)
 have hlt:=ha.lt ho
 cases hc:isC (k b)with
 | true=>simp[snap,hc]
 | false=>
  have hk:(k b).isSome=true:=by
   cases hk:(k b).isSome with
   | true=>rfl
   | false=>
    have h3:¬w.heap.size≤b:=by omega
    simp[snap,hc,hk,h3]at hs
  rw[h b hb hk]at hc;cases hc
theorem vk{k:Hp}{w w':World}{c:Nat}{o:Obj}(h:k c=some o)(hc:o.isChan=true):snap k w w' c=some o:=by simp[snap,h,isC,hc]
theorem vC{k:Hp}{w w':World}{b:Nat}(h:k b=none)(hb:b<w.heap.size):snap k w w' b=none:=by
 have h3:¬w.heap.size≤b:=by omega
 simp[snap,h,isC,h3]

abbrev Rk:=Nat→Option (Hp×(Nat→Prop))
def Bl(pr:Rk)(g:Nat)(v:Option (Hp×(Nat→Prop))):Rk:=fun x=>if x=g then v else pr x
theorem fA{pr:Rk}{g:Nat}{v:Option (Hp×(Nat→Prop))}:Bl pr g v g=v:=by simp[Bl]
theorem jy{pr:Rk}{g x:Nat}{v:Option (Hp×(Nat→Prop))}(h:x≠g):Bl pr g v x=pr x:=by simp[Bl,h]

structure WW(w:World)(t:Trace)(g:Nat)(k:Hp)(M:Nat→Prop):Prop where
 uG:yF k w
 dom:Dom k M
 own:∀b,M b→isC (k b)=false→Own t g b
 rd:∀b,(k b).isSome=true→isC (k b)=false→Rd t g b

structure LY(w:World)(t:Trace)(n:Nat)(dv:Nat→Nat)(pr:Rk)(sh hid:Nat→Prop):Prop where
 tk:TK t n w.heap.size dv
 DZ:∀g k M,pr g=some (k,M)→WW w t g k M
 apart:∀g g' k M k' M',g≠g'→pr g=some (k,M)→pr g'=some (k',M')→Apart M k'
 Ij:∀b g k M o,sh b→pr g=some (k,M)→k b=some o→kN o=true
 fk:∀b g k M o,pr g=some (k,M)→k b=some o→kN o=true→sh b
 uH:∀b g k M,hid b→pr g=some (k,M)→k b=none
 lt:∀b,sh b∨hid b→b<w.heap.size

section
variable{w w':World}{t u:Trace}{n:Nat}{dv Y_:Nat→Nat}{pr:Rk}{sh hid:Nat→Prop}
theorem WW.lt{g:Nat}{k:Hp}{M:Nat→Prop}(h:WW w t g k M){b:Nat}(hb:M b):b<w.heap.size:=let⟨_,ho⟩:=Option.isSome_iff_exists.1 (h.dom b hb);h.uG.lt ho
theorem WW.klt{g:Nat}{k:Hp}{M:Nat→Prop}(h:WW w t g k M){b:Nat}(hb:(k b).isSome=true):b<w.heap.size:=let⟨_,ho⟩:=Option.isSome_iff_exists.1 hb;h.uG.lt ho

theorem LY.step{g:Nat}{k:Hp}{M:Nat→Prop}{es:Array Event}{fn:FuncId}{pos:String}(Y:LY w t n dv pr sh hid)(hg:pr g=some (k,M))(hn:g<n)(gu:dX k M w w' es):
  LY w' (t++MemOp.ofEvents g fn pos es) n dv (Bl pr g (some (snap k w w',grown M w w'))) sh hid:=by
 have K:=Y.DZ g k M hg
 have sN:∀{x k' M'},Bl pr g (some (snap k w w',grown M w w')) x=some (k',M')→(x=g∧k'=snap k w w'∧M'=grown M w w')∨(x≠g∧pr x=some (k',M')):=by
  intro x k' M' h
  by_cases hx:x=g
  ·subst hx;rw[fA]at h;cases h;exact .inl ⟨rfl,rfl,rfl⟩
  ·rw[jy hx]at h;exact .inr ⟨hx,h⟩
 refine⟨Y.tk.step hn K.uG gu K.own K.rd,fun x k' M' h=>?_,fun x y k1 M1 k2 M2 hxy h1 h2=>?_,fun b x k' M' o hb h ho=>?_,fun b x k' M' o h ho hf=>?_,fun b x k' M' hb h=>?_,fun b hb=>Nat.lt_of_lt_of_le (Y.lt b hb) gu.size⟩
 ·rcases sN h with⟨rfl,rfl,rfl⟩ | ⟨hx,h⟩
  ·exact⟨qZ K.uG gu,u_ K.uG K.dom gu.size,fun b hb hc=>WT Y.tk.below b hb fun hm=>K.own b hm (OX b hc),Zo Y.tk.below K.rd⟩
  ·have K':=Y.DZ x k' M' h
   have a1:=Y.apart g x k M k' M' (Ne.symm hx) hg h
   have a2:=Y.apart x g k' M' k M hx h hg
   refine⟨K'.uG.rely gu a1,K'.dom,fun b hb hc=>UR gu (K'.own b hb hc) (K'.lt hb) (a2 b hb),fun b hb hc=>WH gu (K'.rd b hb hc) (K'.klt hb) fun hm=>?_⟩
   rw[a1 b hm hb]at hc;cases hc
 ·rcases sN h1 with⟨rfl,rfl,rfl⟩ | ⟨hx,q1⟩
  ·rcases sN h2 with⟨rfl,_,_⟩ | ⟨hy,q2⟩
   ·exact absurd rfl hxy
   ·exact O6 (Y.apart _ y k M k2 M2 hxy hg q2) (Y.DZ y k2 M2 q2).uG
  ·rcases sN h2 with⟨rfl,rfl,rfl⟩ | ⟨hy,q2⟩
   ·have K1:=Y.DZ x k1 M1 q1
    exact Rj (Y.apart x _ k1 M1 k M hxy q1 hg) K1.dom K1.uG
   ·exact Y.apart x y k1 M1 k2 M2 hxy q1 q2
 ·rcases sN h with⟨rfl,rfl,rfl⟩ | ⟨hx,h⟩
  ·cases hk:k b with
   | none=>rw[vC hk (Y.lt b (.inl hb))]at ho;cases ho
   | some o'=>
    have hf:=Y.Ij b _ k M o' hb hg hk
    rw[vk hk (dU hf)]at ho
    cases ho;exact hf
  ·exact Y.Ij b x k' M' o hb h ho
 ·rcases sN h with⟨rfl,rfl,rfl⟩ | ⟨hx,h⟩
  ·cases hc:isC (k b)with
   | true=>
    have:snap k w w' b=k b:=by simp[snap,hc]
    rw[this]at ho
    exact Y.fk b _ k M o hg ho hf
   | false=>
    exfalso
    have hoc:=dU hf
    simp only[snap,hc,Bool.false_eq_true,if_false]at ho
    split at ho
    ·by_cases hlt:b<w.heap.size
     ·obtain⟨o₁,e⟩:=Option.isSome_iff_exists.1 (show(w.heap[b]?).isSome=true by simp;omega)
      cases aaP:o₁.isChan with
      | true=>
       cases hk:k b with
       | none=>rename_i hx;simp[hk]at hx;omega
       | some y=>
        obtain⟨o₂,e2,e3⟩:=K.uG b y hk
        rw[e]at e2;cases e2
        rw[hk]at hc
        rcases e3 with e3 | e3
        ·rw[←e3]at hc;rw[show isC (some o₁)=o₁.isChan from rfl,aaP]at hc;cases hc
        ·rw[show isC (some y)=y.isChan from rfl,e3.1]at hc;cases hc
      | false=>rw[gu.stay b o₁ o e aaP ho]at hoc;cases hoc
     ·have:=gu.news b o (by omega) ho hoc
      subst this;cases hf
    ·cases ho
  ·exact Y.fk b x k' M' o h ho hf
 ·rcases sN h with⟨rfl,rfl,rfl⟩ | ⟨hx,h⟩
  ·exact vC (Y.uH b _ k M hb hg) (Y.lt b (.inr hb))
  ·exact Y.uH b x k' M' hb h

theorem LY.UW{g n':Nat}{WX:Nat→Prop}(Y:LY w t n dv pr sh hid)(hn:g<n)(hn':n≤n')(hsz:w'.heap.size=w.heap.size)(hoff:∀b,¬WX b→w'.heap[b]? =w.heap[b]?)(hu:Kt t g w.heap.size u)
  (hut:∀op∈u,∀a,op.act.touch? =some a→∀b,In a.loc b→WX b) (hk:∀b x k M o,WX b→pr x=some (k,M)→k b=some o→o.isChan=true∧(kN o=true∨∃o',w'.heap[b]? =some o'∧o'.isChan=true))
  (hd:∀g,Deaf (t++u) g=Y_ g):LY w' (t++u) n' Y_ pr sh hid:=by
 refine⟨Y.tk.sh hn hn' (by rw[hsz];exact Nat.le_refl _) hu hd,fun x k M h=>?_,Y.apart,Y.Ij,Y.fk,Y.uH,fun b hb=>by rw[hsz];exact Y.lt b hb⟩
 have K:=Y.DZ x k M h
 have nt:∀b,(k b).isSome=true→isC (k b)=false→¬WX b:=fun b hs hc ht=>by
  obtain⟨o,ho⟩:=Option.isSome_iff_exists.1 hs
  have:=(hk b x k M o ht h ho).1
  rw[ho]at hc
  rw[show isC (some o)=o.isChan from rfl,this]at hc;cases hc
 refine⟨fun b o ho=>?_,K.dom,fun b hb hc=>?_,fun b hb hc=>?_⟩
 ·obtain⟨o',h1,h2⟩:=K.uG b o ho
  by_cases ht:WX b
  ·obtain⟨h3,h4 | ⟨o₂,h4,h5⟩⟩:=hk b x k M o ht h ho
   ·have hlt:b<w'.heap.size:=by rw[hsz];exact m_ h1
    exact⟨w'.heap[b],Array.getElem?_eq_getElem hlt,.inr ⟨h3,.inr h4⟩⟩
   ·exact⟨o₂,h4,.inr ⟨h3,.inl h5⟩⟩
  ·exact⟨o',by rw[hoff b ht];exact h1,h2⟩
 ·exact hu.own (K.own b hb hc) fun op hop a ha hl=>nt b (K.dom b hb) hc (hut op hop a ha b hl)
 ·exact hu.rd (K.rd b hb hc) fun op hop a ha hl=>nt b hb hc (hut op hop a ha b hl)

theorem LY.set{g:Nat}{k':Hp}{M':Nat→Prop}(Y:LY w t n dv pr sh hid)(hK:WW w t g k' M')(h1:∀x k M,x≠g→pr x=some (k,M)→Apart M' k∧Apart M k')(h2:∀b o,k' b=some o→(sh b→kN o=true)∧(kN o=true→sh b))(h3:∀b,hid b→k' b=none):
  LY w t n dv (Bl pr g (some (k',M'))) sh hid:=by
 have sN:∀{x k1 M1},Bl pr g (some (k',M')) x=some (k1,M1)→(x=g∧k1=k'∧M1=M')∨(x≠g∧pr x=some (k1,M1)):=by
  intro x k1 M1 h
  by_cases hx:x=g
  ·subst hx;rw[fA]at h;cases h;exact .inl ⟨rfl,rfl,rfl⟩
  ·rw[jy hx]at h;exact .inr ⟨hx,h⟩
 refine⟨Y.tk,fun x k1 M1 h=>?_,fun x y k1 M1 k2 M2 hxy e1 e2=>?_,fun b x k1 M1 o hb h ho=>?_,fun b x k1 M1 o h ho hf=>?_,fun b x k1 M1 hb h=>?_,Y.lt⟩
 ·rcases sN h with⟨rfl,rfl,rfl⟩ | ⟨hx,h⟩
  ·exact hK
  ·exact Y.DZ x k1 M1 h
 ·rcases sN e1 with⟨rfl,rfl,rfl⟩ | ⟨hx,q1⟩
  ·rcases sN e2 with⟨rfl,_,_⟩ | ⟨hy,q2⟩
   ·exact absurd rfl hxy
   ·exact(h1 y k2 M2 hy q2).1
  ·rcases sN e2 with⟨rfl,rfl,rfl⟩ | ⟨hy,q2⟩
   ·exact(h1 x k1 M1 hx q1).2
   ·exact Y.apart x y k1 M1 k2 M2 hxy q1 q2
 ·rcases sN h with⟨rfl,rfl,rfl⟩ | ⟨hx,h⟩
  ·exact(h2 b o ho).1 hb
  ·exact Y.Ij b x k1 M1 o hb h ho
 ·rcases sN h with⟨rfl,rfl,rfl⟩ | ⟨hx,h⟩
  ·exact(h2 b o ho).2 hf
  ·exact Y.fk b x k1 M1 o h ho hf
 ·rcases sN h with⟨rfl,rfl,rfl⟩ | ⟨hx,h⟩
  ·exact h3 b hb
  ·exact Y.uH b x k1 M1 hb h
theorem LY.drop{g:Nat}(Y:LY w t n dv pr sh hid):LY w t n dv (Bl pr g none) sh hid:=by
 have sN:∀{x k1 M1},Bl pr g none x=some (k1,M1)→pr x=some (k1,M1):=by
  intro x k1 M1 h
  by_cases hx:x=g
  ·subst hx;rw[fA]at h;cases h
  ·rw[jy hx]at h;exact h
 exact⟨Y.tk,fun x k1 M1 h=>Y.DZ x k1 M1 (sN h),fun x y k1 M1 k2 M2 hxy e1 e2=>Y.apart x y k1 M1 k2 M2 hxy (sN e1) (sN e2),fun b x k1 M1 o hb h ho=>Y.Ij b x k1 M1 o hb (sN h) ho,fun b x k1 M1 o h ho hf=>Y.fk b x k1 M1 o (sN h) ho hf,fun b x k1 M1 hb h=>Y.uH b x k1 M1 hb (sN h),Y.lt⟩
theorem LY.re{sh' abh:Nat→Prop}(Y:LY w t n dv pr sh hid)(h1:∀b g k M o,pr g=some (k,M)→k b=some o→(sh' b→kN o=true)∧(kN o=true→sh' b))(h2:∀b g k M,abh b→pr g=some (k,M)→k b=none)(h3:∀b,sh' b∨abh b→b<w.heap.size):LY w t n dv pr sh' abh:=
 ⟨Y.tk,Y.DZ,Y.apart,fun b g k M o hb h ho=>(h1 b g k M o h ho).1 hb,fun b g k M o h ho hf=>(h1 b g k M o h ho).2 hf,h2,h3⟩
theorem LY.O7{pr':Rk}(Y:LY w t n dv pr sh hid)(h:∀g,pr' g=pr g):LY w t n dv pr' sh hid:=by
 have:pr'=pr:=funext h
 rw[this];exact Y
theorem WW.at{g:Nat}{k:Hp}{M:Nat→Prop}(h:WW w t g k M)(d:Nat):WW (w.at d) t g k M:=⟨h.uG,h.dom,h.own,h.rd⟩
theorem LY.at(Y:LY w t n dv pr sh hid)(d:Nat):LY (w.at d) t n dv pr sh hid:=⟨Y.tk,fun g k M h=>(Y.DZ g k M h).at d,Y.apart,Y.Ij,Y.fk,Y.uH,Y.lt⟩
end
end Go.aS

/- The machine: what holds of it, inside a group and outside. Conditions: none; over any program. -/
namespace Go.aS
open Go.Conc (crowd parked rcase scase QuitsIn QuitsD Before Knows knows_own touchAt touchAt_of touchAt_old getElem?_append_old getElem?_append_cases lt_size_of_getElem? touch_of hb_po hb_app ofEvents_eq woken Deaf deaf_old g?_old act?_old heard_old lt_of_act? Deaf_own Deaf_other)
open Go.ConcM (OsLater)
inductive WM(P:Program)(γ:GP)(j:Nat) where
 | run {g:Goroutine} {k:Hp} {M:Nat→Prop} (T:yU P γ j g k M)
 | vF (E:LS→Goroutine→Prop) (k:Hp) (M:Nat→Prop) (hm:γ.mu≠none) (hk:k γ.Mu=some (gK .out)) (hM:M γ.Mu) (hE:∀s g',E s g'→∃o B,s= .mu .hold o B 0 1)
   (h:∀s g' l c,E s g'→γ.J l c→k γ.C=none→¬M γ.C→yU P γ j g' (hset (hset k γ.Mu (gK (.hold l))) γ.C c) (fun b=>M b∨b=γ.C)) (tk:Option (List Nat×Obj)) {s:LS} {g:Goroutine} (T:dB P false (aJ γ.toGrp) E s g)
 | xY (E:LS→Goroutine→Prop) (k:Hp) (M:Nat→Prop) (hm:γ.mu≠none) (hk:k γ.Mu=some (gK .fin)) (hM:M γ.Mu) (t:Nat) (ht:γ.tag j=some t) (hE:∀s g',E s g'→∃o B,s= .mu .fin o B 0 2)
   (h:∀s g',E s g'→yU P γ j g' k M) (tk:Option (List Nat×Obj)) {s:LS} {g:Goroutine} (T:dB P false (aJ γ.toGrp) E s g)
 | fin (pre:Option (Hp×(Nat→Prop)×ah)) {s:LS} {g:Goroutine} (T:dB P false (aJ γ.toGrp) (Gone P) s g)
 | I4 {g:Goroutine} (n:Nat) (h:QuitsIn P n g)

section
variable{P:Program}{γ:GP}{j:Nat}
def WM.g:WM P γ j→Goroutine
 | .run (g:=g) _=>g
 | .vF (g:=g) .. =>g
 | .xY (g:=g) .. =>g
 | .fin (g:=g) _ _=>g
 | .I4 (g:=g) .. =>g
theorem WM.status(m:WM P γ j):m.g.status= .running∨m.g.status= .finished:=by
 cases m with
 | run T=>exact .inl T.status
 | vF E k M hm hk hM hE h tk T=>exact .inl T.status
 | xY E k M hm hk hM t ht hE h tk T=>exact .inl T.status
 | fin pre T=>exact .inl T.status
 | I4 n h=>exact h.status
def WM.act:WM P γ j→Option (Hp×(Nat→Prop))
 | .run (k:=k) (M:=M) _=>some (k,M)
 | .vF _ k M .. =>some (k,M)
 | .xY _ k M .. =>some (k,M)
 | .fin pre _=>pre.map fun q=>(q.1,q.2.1)
 | .I4 .. =>none
noncomputable def vG(γ:GP)(k:Hp):MR:=by
 classical exact if γ.mu=none then .fin else if k γ.Mu=some (gK .out)then .out else if∃l,k γ.Mu=some (gK (.hold l))then .hold else .fin
def LS.r:LS→MR
 | .mu r .. =>r
 | _=>.fin
def LS.d:LS→Nat
 | .mu _ _ _ d _=>d
 | .wg _ d=>d
 | .dn _ d=>d
def LS.wr:LS→WR
 | .dn r _=>r
 | _=>.live
def WM.deaf:WM P γ j→Nat
 | .vF (s:=s) .. =>s.d
 | .xY (s:=s) .. =>s.d
 | .fin (s:=s) _ _=>s.d
 | _=>0
end
end Go.aS
