/- Slices: of what is read ('Sl'), and of one's own ('Os'); append, copy, slices of slices. Conditions: none; over any program. (And 8 texts more.) -/
import Derived.Test.YtahkljmgmgacjabGreatDoorR02
import Derived.Conc.CrowdComm
import Derived.Conc.Know
import Derived.Conc.Quits
import Derived.Conc.Pipeline3
set_option linter.unusedVariables false
set_option linter.unusedSimpArgs false
set_option linter.unusedSectionVars false

/- Slices: of what is read ('Sl'), and of one's own ('Os'); append, copy, slices of slices. Conditions: none; over any program. -/
namespace Go.aS
def Part(c:Array Value)(off:Nat)(xs:List Value):Prop:=∃pre post,c.toList=pre++(xs++post)∧pre.length=off

theorem Part.len{c:Array Value}{off:Nat}{xs:List Value}(h:Part c off xs):off+xs.length≤c.size:=by
 obtain⟨pre,post,h1,h2⟩:=h
 have:c.size=c.toList.length:=by simp
 rw[this,h1];simp;omega
theorem Part.get{c:Array Value}{off j:Nat}{xs:List Value}(h:Part c off xs)(hj:j<xs.length):c[off+j]? =xs[j]? :=by
 obtain⟨pre,post,h1,h2⟩:=h
 have:c[off+j]? =c.toList[off+j]? :=by simp
 rw[this,h1,List.getElem?_append_right (by omega),List.getElem?_append_left (by omega)]
 congr 1;omega
theorem Part.sub{c:Array Value}{off:Nat}{a b d:List Value}(h:Part c off (a++(b++d))):Part c (off+a.length) b:=by
 obtain⟨pre,post,h1,h2⟩:=h
 exact⟨pre++a,d++post,by rw[h1];simp,by simp;omega⟩
theorem Part.extract{c:Array Value}{off:Nat}{xs:List Value}(h:Part c off xs):c.extract off (off+xs.length)=xs.toArray:=by
 obtain⟨pre,post,h1,h2⟩:=h
 apply Array.ext'
 rw[Array.toList_extract,h1]
 simp[List.extract,h2.symm]
theorem Part.all(xs:List Value):Part xs.toArray 0 xs:=⟨[],[],by simp,rfl⟩
class Rw{α:Type}(row:α→List Value)(w:outParam Nat):Prop where
 len:∀p,(row p).length=w
 ones:∀p,ones (row p)=true

def fH(n:Int):List Value:=[.int .i64 n]
instance:Rw fH 1:=⟨fun _=>rfl,fun _=>rfl⟩

section
variable{α:Type}{row:α→List Value}{w:Nat}[rw':Rw row w]
def flat(row:α→List Value)(l:List α):List Value:=l.flatMap row
theorem iV(p:α)(l:List α):flat row (p::l)=row p++flat row l:=rfl
theorem zk(l l':List α):flat row (l++l')=flat row l++flat row l':=List.flatMap_append
theorem aI0(p:α):flat row [p]=row p:=by simp[flat]
theorem jT(l:List α):(flat row l).length=l.length*w:=by
 induction l with
 | nil=>simp[flat]
 | cons p l ih=>rw[iV,List.length_append,Rw.len,ih,List.length_cons,Nat.succ_mul];omega
theorem OW:∀(a b:List Value),ones (a++b)=(ones a&&ones b)
 | [],b=>rfl
 | u::a,b=>by simp[aS.ones,OW a b,Bool.and_assoc]
include rw' in
theorem Lu(l:List α):aS.ones (flat row l)=true:=by
 induction l with
 | nil=>rfl
 | cons p l ih=>rw[iV,OW,rw'.ones,ih];rfl

theorem Q8{l:List α}{i:Nat}{p:α}(h:l[i]? =some p):flat row l=flat row (l.take i)++(row p++flat row (l.drop (i+1))):=by
 have hlt:i<l.length:=by
  rcases Nat.lt_or_ge i l.length with h' | h'
  ·exact h'
  ·rw[List.getElem?_eq_none h']at h;cases h
 have e:l=l.take i++(p::l.drop (i+1)):=by
  rw[List.getElem?_eq_getElem hlt,Option.some.injEq]at h
  rw[←h,List.getElem_cons_drop,List.take_append_drop]
 conv=>lhs;rw[e]
 rw[zk,iV]

theorem Part.rowP{c:Array Value}{off i:Nat}{l:List α}{p:α}(h:Part c off (flat row l))(hi:l[i]? =some p):Part c (off+i*w) (row p):=by
 have hlt:i<l.length:=by
  rcases Nat.lt_or_ge i l.length with h' | h'
  ·exact h'
  ·rw[List.getElem?_eq_none h']at hi;cases hi
 rw[Q8 hi]at h
 have:=h.sub
 rwa[jT,List.length_take,Nat.min_eq_left (by omega)]at this
theorem Part.abd{c:Array Value}{off i:Nat}{l:List α}{p:α}(h:Part c off (flat row l))(hi:l[i]? =some p):c.extract (off+i*w) (off+i*w+w)=(row p).toArray∧off+i*w+w≤c.size:=by
 have h1:=h.rowP hi
 have h2:=h1.extract
 have h3:=h1.len
 rw[Rw.len (row:=row) (w:=w)]at h2 h3
 exact⟨h2,h3⟩

/-! ### Slices that are read -/
def Sl(h:Hp)(row:α→List Value)(v:Value)(l:List α):Prop:=
 ∃a cap,v= .slice a l.length cap∧(l≠[]→∃b off c E fz,a=some ⟨b,off,none⟩∧h b=some (.cells c E fz)∧Part c off (flat row l))

omit rw' in
theorem Sl.ext{h h':Hp}(e:Ext h h'){v:Value}{l:List α}(H:Sl h row v l):Sl h' row v l:=by
 obtain⟨a,cap,h1,h2⟩:=H
 refine⟨a,cap,h1,fun hl=>?_⟩
 obtain⟨b,off,c,E,fz,h3,h4,h5⟩:=h2 hl
 exact⟨b,off,c,E,fz,h3,e.1 _ _ h4,h5⟩
omit rw' in
theorem Sl.nil{h:Hp}{a:Option Addr}{cap:Nat}:Sl h row (.slice a 0 cap) []:=⟨a,cap,rfl,fun h=>absurd rfl h⟩
omit rw' in
theorem Sl.mk{h:Hp}{b off n cap:Nat}{c:Array Value}{E:TypeId}{fz:Nat×Nat}{l:List α}(hb:h b=some (.cells c E fz))(hn:n=l.length)(hp:Part c off (flat row l)):Sl h row (.slice (some ⟨b,off,none⟩) n cap) l:=
 ⟨_,cap,by rw[hn],fun _=>⟨b,off,c,E,fz,rfl,hb,hp⟩⟩
omit rw' in
theorem Sl.len{h:Hp}{a:Option Addr}{n cap:Nat}{l:List α}(H:Sl h row (.slice a n cap) l):n=l.length:=by
 obtain⟨a',cap',h1,_⟩:=H
 cases h1;rfl

/-! ### Slices of one's own -/
def Os(E:TypeId)(row:α→List Value)[Rw row w](v:Value)(l:List α)(A:eG):Prop:=
 (l=[]∧v= .slice none 0 0∧Shut A)∨∃β c cap J,v= .slice (some ⟨β,0,none⟩) l.length cap∧A=(β,.cells c E (0,0))::J∧c.size=cap*w∧l.length≤cap∧Part c 0 (flat row l)∧Shut J

theorem Os.nil{E:TypeId}{A:eG}(h:Shut A):Os E row (.slice none 0 0) [] A:=.inl ⟨rfl,rfl,h⟩
theorem Os.shut{E:TypeId}{v:Value}{l:List α}{A:eG}(H:Os E row v l A):Shut A:=by
 rcases H with⟨_,_,h⟩ | ⟨β,c,cap,J,_,rfl,_,_,_,h⟩
 ·exact h
 ·exact .cons rfl h
theorem Os.sl{E:TypeId}{v:Value}{l:List α}{A:eG}(H:Os E row v l A){h:Hp}(hl:fF A h):Sl h row v l:=by
 rcases H with⟨rfl,rfl,_⟩ | ⟨β,c,cap,J,rfl,rfl,h1,h2,h3,_⟩
 ·exact .nil
 ·exact .mk (hl β (.cells c E (0,0)) (by simp)) rfl h3
theorem Os.dA{E:TypeId}{v:Value}{l:List α}{A:eG}(H:Os E row v l A):∃a cap,v= .slice a l.length cap:=by
 rcases H with⟨rfl,rfl,_⟩ | ⟨β,c,cap,J,rfl,rfl,h1,h2,h3,_⟩
 ·exact⟨_,_,rfl⟩
 ·exact⟨_,_,rfl⟩

/-! ### append -/
theorem DU{P:Program}{h:Hp}{F:eG}{v:Value}{l:List α}{Q:Array Value→eG→Prop}(H:Sl h row v l)(K:Q (flat row l).toArray F):tr P h (Builtin.firstCells w l.length v) F Q:=by
 obtain⟨a,cap,rfl,h2⟩:=H
 cases l with
 | nil=>
  cases a with
  | none=>exact K
  | some a=>simp only[Builtin.firstCells,List.length_nil,Nat.zero_mul,loadCells,loadCellsFrom];exact K
 | cons p l=>
  obtain⟨b,off,c,E,fz,rfl,h4,h5⟩:=h2 (by simp)
  have h6:=h5.len
  have h7:=h5.extract
  rw[jT]at h6 h7
  simp only[Builtin.firstCells,loadCells]
  refine gX (.inl h4) _ 0 #[] (by omega) ?_
  simp only[Nat.add_zero,Array.empty_append]
  rw[h7];exact K

theorem UO{P:Program}{h:Hp}{E:TypeId}{A:eG}{v:Value}{l:List α}{Q:Array Value→eG→Prop}(H:Os E row v l A)(K:Q (flat row l).toArray A):tr P h (Builtin.firstCells w l.length v) A Q:=by
 rcases H with⟨rfl,rfl,_⟩ | ⟨β,c,cap,J,rfl,rfl,h1,h2,h3,_⟩
 ·exact K
 ·have h6:=h3.len
  have h7:=h3.extract
  rw[jT]at h6 h7
  simp only[Builtin.firstCells,loadCells]
  refine gX (.inr (List.mem_cons_self ..)) _ 0 #[] (by omega) ?_
  simp only[Nat.add_zero,Array.empty_append]
  rw[h7];exact K

theorem LC(n:Nat):∀(r c:Nat),c≤n→Builtin.growBy n r c≤2*n+768
 | 0,c,h=>by simp[Builtin.growBy];omega
 | r+1,c,h=>by
  unfold Builtin.growBy
  split
  ·omega
  ·rename_i hc
   by_cases h1:c+(c+768) / 4≤n
   ·exact LC n r _ h1
   ·cases r with
    | zero=>simp[Builtin.growBy];omega
    | succ r=>unfold Builtin.growBy;rw[if_pos (by omega)];omega
theorem IV{need cap:Nat}(h:cap<need):Builtin.nextslicecap need cap≤2*need+768:=by
 unfold Builtin.nextslicecap
 split
 ·omega
 ·split
  ·omega
  ·exact LC _ _ _ (by omega)

theorem Gz:∀(vs:List Value) (c:Array Value) {xs:List Value},Part c 0 xs→xs.length+vs.length≤c.size→Part (jv c xs.length vs) 0 (xs++vs)
 | [],c,xs,h,_=>by simpa[jv]using h
 | u::r,c,xs,h,hn=>by
  simp only[List.length_cons]at hn
  have h':Part (c.setIfInBounds xs.length u) 0 (xs++[u]):=by
   obtain⟨pre,post,h1,h2⟩:=h
   have hp:pre=[]:=List.length_eq_zero_iff.1 h2
   subst hp
   cases post with
   | nil=>
    have:c.size=c.toList.length:=by simp
    rw[this,h1]at hn;simp at hn;omega
   | cons y post=>
    refine⟨[],post,?_,rfl⟩
    rw[Array.toList_setIfInBounds,h1]
    simp
  have:=Gz r (c.setIfInBounds xs.length u) h' (by simp;omega)
  simpa[jv]using this

theorem zn{zc:Array Value}{n:Nat}:(Builtin.zeroCells zc n).size=n*zc.size:=by simp[Builtin.zeroCells]

theorem UQ{P:Program}{h:Hp}{t t' ty E E' by':Nat}{z:Value}{zc:Array Value}[TD P t (.slice E)][TD P t' (.slice E')][TI P E w by' z zc]{v x:Value}{l l':List α}{A:eG}{Q:Value→eG→Prop}(hzc:zc.size=w)
  (hs:Os E row v l A) (hx:Sl h row x l') (hb:(2*(l.length+l'.length)+768)*by'≤2 ^ 48) (hby:0<by')
  (K:∀v' A',Os E row v' (l++l') A'→Q v' A'):tr P h (Builtin.append_ #[t,t'] ty #[v,x]) A Q:=by
 obtain⟨j,hj,hj1,hj2,hj3,hj4⟩:=TI.out (inferInstance:TI P E w by' z zc)
 have hm:((l.length+l'.length:Nat):Int)≤IntKind.i64.max:=by
  have h1:(2*(l.length+l'.length)+768)*1≤(2*(l.length+l'.length)+768)*by':=Nat.mul_le_mul_left _ hby
  have h2:IntKind.i64.max=9223372036854775807:=rfl
  omega
 obtain⟨ax,Q9,hxe,_⟩:=id hx
 obtain⟨a,cap,hv⟩:=hs.dA
 subst hv hxe
 have e1:(#[t,t']:Array TypeId)[0]? =some t:=rfl
 have e2:(#[t,t']:Array TypeId)[1]? =some t':=rfl
 have e3:(#[Value.slice a l.length cap,Value.slice ax l'.length Q9]:Array Value)[0]? =some (.slice a l.length cap):=rfl
 have e4:(#[Value.slice a l.length cap,Value.slice ax l'.length Q9]:Array Value)[1]? =some (.slice ax l'.length Q9):=rfl
 simp only[Builtin.append_,e1,e2,e3,e4,bind_eq,gq,bind_assoc,bind_pure,aC,dH,Bool.false_eq_true,if_false,Builtin.lenOf,Bool.not_false,if_true]
 by_cases hc:l.length+l'.length≤cap
 ·rw[if_pos hc]
  refine bJ (DU hx ?_)
  rcases hs with⟨rfl,he,hsh⟩ | ⟨β,c,cap',J,he,rfl,h1,h2,h3,hsh⟩
  ·cases he
   have:l'=[]:=List.length_eq_zero_iff.1 (by simp at hc;simp[hc])
   subst this
   exact K _ A (.nil hsh)
  ·cases he
   have hl3:=jT (row:=row) l
   have WE:=jT (row:=row) l'
   have hle:l.length*w+l'.length*w≤c.size:=by rw[h1,←Nat.add_mul];exact Nat.mul_le_mul_right _ hc
   have ea:(⟨β,0,none⟩:Addr).add (l.length*w)=⟨β,l.length*w,none⟩:=by rw[jE rfl];simp
   simp only[ea]
   refine bJ (kV (flat row l') 0 c (Lu l') At.head (by rw[WE];simp;omega) ?_)
   refine K _ _ (.inr ⟨β,jv c (l.length*w) (flat row l'),cap,J,by rw[List.length_append],by simp,by rw[y9,h1],by rw[List.length_append];exact hc,?_,hsh⟩)
   rw[zk,←hl3]
   exact Gz _ _ h3 (by rw[hl3,WE];exact hle)
 ·rw[if_neg hc]
  have c1:¬(((l.length+l'.length:Nat):Int)>IntKind.i64.max∧(false=true∨(by':Nat)=0)):=by omega
  have c2:¬Builtin.nextslicecap (l.length+l'.length) cap*by'>2 ^ 48:=by
   have:=IV (show cap<l.length+l'.length by omega)
   have:=Nat.mul_le_mul_right by' this
   omega
  simp only[dJ hj,hj2]
  have c1':¬(((l.length+l'.length:Nat):Int)>IntKind.i64.max):=by omega
  simp only[c1',false_and,if_false]
  rw[dJ hj,hj2,if_neg c2]
  intro n ⟨tp,hn⟩
  have hn':l.length+l'.length≤n:=by rw[hn];simp only[Question.cut];omega
  clear hn c2
  show tr P h (Sem.bind (typeInfo E) _) A Q
  rw[dJ hj,hj2]
  
  have room:∀{β:Type} {f:Unit→Sem β} {Q':β→eG→Prop},tr P h (f ()) A Q'→tr P h ((askRoom (n*by')).bind f) A Q':=by
   intro β f Q' H
   unfold askRoom
   split
   ·exact⟨rfl,H⟩
   ·exact H
  refine room (bJ (UO hs (bJ (DU hx ?_))))
  simp only[fG,hj4,newRow,bind_eq,gq,bind_assoc,bind_pure]
  refine wI fun r _ _=>?_
  refine K _ _ (.inr ⟨r,_,n,A,by rw[List.length_append],rfl,?_,by rw[List.length_append];exact hn',?_,hs.shut⟩)
  ·simp only[Array.size_append,List.size_toArray,jT,zn,hzc,←Nat.add_mul]
   congr 1;omega
  ·refine⟨[],(Builtin.zeroCells zc (n- (l.length+l'.length))).toList,?_,rfl⟩
   rw[zk]
   simp only[Array.toList_append,List.nil_append,List.append_assoc]
end
/-! ### The laws -/
section rules
variable{x:Cx}{ρ:Env}{F:eG}{o:Oper}{R:Value→eG→Prop}{α:Type}{row:α→List Value}{w:Nat}[rw':Rw row w]
theorem iW{t t' E E' by':Nat}{z:Value}{zc:Array Value}{y yx:Operand}{v xv:Value}{l l':List α}{A:eG}{U:eG→eG}(ho:o.op= .call ⟨.builtin .append, #[y,yx], #[t,t']⟩)[TD x.P t (.slice E)][TD x.P t' (.slice E')][TI x.P E w by' z zc]
  (hy:ev ρ y=some v) (hx:ev ρ yx=some xv) (hs:Os E row v l A) (hg:Seg A F U) (hsrc:∀h',Ext x.h h'→fF (U []) h'→Sl h' row xv l') (hb:(2*(l.length+l'.length)+768)*by'≤2 ^ 48) (hby:0<by') (hzc:zc.size=w)
  (K:∀v' A',Os E row v' (l++l') A'→R v' (U A')):Ef x ρ o F R:=fun e he=>
 ⟨A,U [],hg.perm.1,fun h' e1 e2=>by
  simp only[execOp,ho,resolve,invoke,builtin,List.map_toArray,List.map_cons,List.map_nil,he y _ hy,he yx _ hx,bind_eq,gq,bind_pure]
  exact bJ (UQ hzc hs (hsrc h' e1 e2) hb hby fun v' A' H=>⟨U A',hg.perm.2 A',K v' A' H⟩)⟩
end rules
end Go.aS

/- Loops over functions, as their bodies show them; iterators. Conditions: none; over any program. -/
namespace Go.aS
def runs{σ X:Type}(step:σ→X→σ×Bool):σ→List X→σ×Bool
 | s,[]=>(s,true)
 | s,p::xs=>match step s p with
  | (s',true)=>runs step s' xs
  | (s',false)=>(s',false)

theorem IW{σ X:Type}(step:σ→X→σ×Bool):∀(s:σ) (xs ys:List X),runs step s (xs++ys)=match runs step s xs with | (s',true)=>runs step s' ys | (s',false)=>(s',false)
 | s,[],ys=>rfl
 | s,p::xs,ys=>by
  simp only[List.cons_append,runs]
  split
  ·exact IW step _ xs ys
  ·rfl

def Out{σ:Type}(J K:σ→eG→Prop)(r:σ×Bool)(A:eG):Prop:=∃B,Sb B A∧match r with | (s,true)=>J s B | (s,false)=>K s B

def Yld(P:Program)(main:Side)(yv:Value)(h:Hp){σ X:Type}(enc:X→Value)(nx:X→σ→Prop)(step:σ→X→σ×Bool)(J K:σ→eG→Prop):Prop:=
 ∀h',Ext h h'→∀s p A,nx p s→J s A→gZ P main yv [enc p] h' A fun r A'=>r= .bool (step s p).2∧Out J K (step s p) A'
def LD{σ X:Type}(nx:X→σ→Prop)(step:σ→X→σ×Bool)(s:σ)(xs:List X):Prop:=∀pre p post s',xs=pre++p::post→runs step s pre=(s',true)→nx p s'
def Far{σ X:Type}(step:σ→X→σ×Bool)(s:σ)(xs:List X)(t:σ)(rest:List X):Prop:=∃pre,xs=pre++rest∧runs step s pre=(t,true)
theorem Far.zero{σ X:Type}{step:σ→X→σ×Bool}{s:σ}{xs:List X}:Far step s xs s xs:=⟨[],rfl,rfl⟩
theorem Far.eq{σ X:Type}{step:σ→X→σ×Bool}{s t:σ}{xs rest:List X}(h:Far step s xs t rest):runs step s xs=runs step t rest:=by
 obtain⟨pre,rfl,h2⟩:=h
 rw[IW,h2]
theorem Far.next{σ X:Type}{step:σ→X→σ×Bool}{s t t':σ}{xs rest:List X}{p:X}(h:Far step s xs t (p::rest))(hs:step t p=(t',true)):Far step s xs t' rest:=by
 obtain⟨pre,h1,h2⟩:=h
 refine⟨pre++[p],by rw[h1];simp,?_⟩
 rw[IW,h2]
 simp only[runs,hs]
theorem LD.far{σ X:Type}{nx:X→σ→Prop}{step:σ→X→σ×Bool}{s t:σ}{xs rest:List X}{p:X}(ha:LD nx step s xs)(h:Far step s xs t (p::rest)):nx p t:=by
 obtain⟨pre,h1,h2⟩:=h
 exact ha _ _ _ _ h1 h2
theorem LD.mem{σ X:Type}{step:σ→X→σ×Bool}{s:σ}{xs:List X}:LD (fun p _=>p∈xs) step s xs:=fun pre p post s' e _=>by rw[e];simp

theorem Ext.trans{a b c:Hp}(h:Ext a b)(h':Ext b c):Ext a c:=⟨fun _ _ x=>h'.1 _ _ (h.1 _ _ x),fun _ x=>h'.2 _ (h.2 _ x)⟩

theorem Yld.sub{P:Program}{main:Side}{yv:Value}{h h':Hp}{σ X:Type}{enc:X→Value}{nx nx':X→σ→Prop}{step:σ→X→σ×Bool}{J K:σ→eG→Prop}(H:Yld P main yv h enc nx step J K)(e:Ext h h')(s:∀p s,nx' p s→nx p s):Yld P main yv h' enc nx' step J K:=
 fun h'' e' t p A hp=>H h'' (e.trans e') t p A (s p t hp)

def Iter(P:Program)(main:Side)(fv:Value){X:Type}(enc:X→Value)(xs:List X)(h:Hp):Prop:=
 ∀h',Ext h h'→∀(yv:Value),one yv=true→∀(σ:Type) (nx:X→σ→Prop) (step:σ→X→σ×Bool) (J K:σ→eG→Prop),Yld P main yv h' enc nx step J K→∀s A,LD nx step s xs→J s A→gZ P main fv [yv] h' A fun _ A'=>Out J K (runs step s xs) A'

theorem Iter.ext{P:Program}{main:Side}{fv:Value}{X:Type}{enc:X→Value}{xs:List X}{h h':Hp}(H:Iter P main fv enc xs h)(e:Ext h h'):Iter P main fv enc xs h':=
 fun h'' e'=>H h'' (e.trans e')

def Q_:Option Exit→Exit
 | none=>.normal
 | some e=>e

def tK:Exit→Option Code
 | .exit id=>some (.exit id)
 | .goto l=>some (.goto l)
 | .ret=>some .ret
 | _=>none

theorem uy{e:Option Exit}(he:∀x,e=some x→(tK x).isSome=true):MN (Q_ e)=some (e.bind tK):=by
 cases e with
 | none=>rfl
 | some x=>have:=he x rfl;cases x <;>first | rfl | cases this

def BN{σ X:Type}(st:σ→X→σ)(ex:σ→X→Option Exit):σ×Option Exit→X→(σ×Option Exit)×Bool:=fun s p=>((st s.1 p,ex s.1 p),(ex s.1 p).isNone)

theorem IX{σ X:Type}{st:σ→X→σ}{ex:σ→X→Option Exit}:∀{xs:List X} {s:σ} {r:σ×Option Exit} {b:Bool},runs (BN st ex) (s,none) xs=(r,b)→r.2.isNone=b
 | [],s,r,b,h=>by cases h;rfl
 | p::xs,s,r,b,h=>by
  simp only[runs,BN]at h
  cases he:ex s p with
  | none=>simp only[he]at h;exact IX h
  | some e=>simp only[he]at h;cases h;rfl

theorem W.range{x:Cx}{Q:Post}{ρ:Env}{ds:List Deferred}{F:eG}{f:Operand}{t:Tmp}{us bd:Code}{fv:Value}{X σ:Type}{enc:X→Value}{xs:List X}(hf:ev ρ f=some fv)(hro:x.ro=none)(ht:Nat.blt t x.n=true)
  (st:σ→X→σ) (ex:σ→X→Option Exit) (D:σ→eG→Prop) (s₀:σ) {A₀:eG} {g_:eG→eG} (hs:Seg A₀ F g_) (h0:D s₀ A₀)
  (hi:∀h',Ext x.h h'→fF (g_ []) h'→Iter x.P x.main fv enc xs h')
  (hex:∀s p e,ex s p=some e→(tK e).isSome=true)
  (
   body:∀s p A,p∈xs→D s A→∀l h',Ext x.h h'→fF (g_ []) h'→W {x with ro:=some l,h:=h'} us (fun e xP xQ qp=>e= .normal∧xQ=[]∧∀h',Ext x.h h'→fF (g_ []) h'→
   W {x with ro:=some l,h:=h'} bd (fun e _ ds₂ kP=>ds₂=[]∧e=Q_ (ex s p)∧∃B,D (st s p) B∧Sb B kP) xP [] qp) ((t,enc p)::ρ) [] A)
  (after:∀s e A,(runs (BN st ex) (s₀,none) xs).1=(s,e)→D s A→∀d,Q (Q_ e) ρ (mark d::ds) ((d,.deferred (some []))::g_ A)):W x (.rangeFunc f #[t] us bd) Q ρ ds F:=by
 refine W.rangeFunc hf hro fun tmps hρ hsz l d=>?_
 let L (s:LoopState) (pd:Option Code):Obj:=.loop {state:=s,pending:=pd,fn:=x.fn,tmps,params:= #[t],assign:=us,body:=bd,defers:=d}
 let J:σ×Option Exit→eG→Prop:=fun s A=>s.2=none∧∃B,D s.1 B∧A=B++[(l,L .ready none)]
 let K:σ×Option Exit→eG→Prop:=fun s A=>∃B c,D s.1 B∧s.2.bind tK=some c∧A=B++[(l,L .done (some c))]
 
 refine⟨A₀++[(l,L .ready none)],(d,.deferred (some []))::g_ [],fun _ A'=>Out J K (runs (BN st ex) (s₀,none) xs) A',?_,?_,?_⟩
 ·refine(List.perm_append_comm.append_right _).trans ?_
  refine List.Perm.cons _ ?_
  exact List.perm_middle.trans (hs.perm.1.cons _)
 ·intro h' e1 e2
  have e3:fF (g_ []) h':=fun b o hb=>e2 b o (List.mem_cons_of_mem _ hb)
  refine hi h' e1 e3 h' ⟨fun _ _ z=>z,fun _ z=>z⟩ _ rfl (σ×Option Exit) (fun p _=>p∈xs) (BN st ex) J K ?_ (s₀,none) _ LD.mem ⟨rfl,A₀,h0,rfl⟩
  
  rintro h'' e4 ⟨s,e⟩ p A hp ⟨rfl,B,hB,rfl⟩
  have hE:Ext x.h h'':=e1.trans e4
  have hL:fF (g_ []) h'':=fun b o hb=>e4.1 _ _ (e3 b o hb)
  refine⟨_,_,_,rfl,?_⟩
  simp only[invoke,Instr.yield,Instr.getLoop,bind_eq,gq,bind_assoc]
  refine⟨L .ready none,.inr (List.mem_append_right _ (List.mem_cons_self ..)),(fun _ _ _=>by simp[L]),rfl,?_⟩
  have ez:Array.foldl (fun(tmps:Array Value) (x:Tmp×Value)=>tmps.setIfInBounds x.1 x.2) tmps (#[t].zip #[enc p])=tmps.setIfInBounds t (enc p):=by simp
  show ni x.P x.main h'' _ (.round l x.fn (Array.foldl (fun(tmps:Array Value) (x:Tmp×Value)=>tmps.setIfInBounds x.1 x.2) tmps (#[t].zip #[enc p])) us bd) _
  rw[ez]
  have hlt:t<tmps.size:=by rw[hsz];exact Nat.le_of_ble_eq_true ht
  have WG:dQ ((t,enc p)::ρ) (tmps.setIfInBounds t (enc p)):=hρ.put hlt _
  have hsz':(tmps.setIfInBounds t (enc p)).size=x.n:=by simpa using hsz
  show Rnd x.P x.main l x.fn (tmps.setIfInBounds t (enc p)) us bd h'' _ _
  refine Rnd.aG _ WG ?_
  rw[hsz']
  
  refine(W.frame (x:={x with ro:=some l,h:=h''}) fun h₃ e5 _=>body s p B hp hB l h₃ (hE.trans e5) (fun b o hb=>e5.1 _ _ (hL b o hb))).mono ?_
  rintro e xP xQ qp ⟨A',⟨rfl,rfl,hbd⟩,rfl⟩
  refine⟨rfl,rfl,?_⟩
  simp only[Instr.beginRound,Instr.getLoop,bind_eq,gq,bind_assoc]
  refine⟨L .ready none,.inr (List.mem_append_right _ (List.mem_cons_self ..)),(fun _ _ _=>by simp[L]),rfl,?_⟩
  refine⟨L .ready none,A',[],rfl,(fun _ _ _=>by simp[L]),rfl,?_⟩
  show W _ _ _ _ _ (A'++[(l,L .busy none)])
  
  refine(W.frame (x:={x with ro:=some l,h:=h''}) fun h₃ e5 _=>hbd h₃ (hE.trans e5) (fun b o hb=>e5.1 _ _ (hL b o hb))).mono ?_
  rintro e tC ds₂ kP ⟨A₂,⟨rfl,rfl,Bg,BO,hsb⟩,rfl⟩
  refine⟨rfl,(ex s p).bind tK,uy fun e he=>hex s p e he,?_⟩
  simp only[Instr.endRound,Instr.getLoop,bind_eq,gq,bind_assoc]
  refine⟨L .busy none,.inr (List.mem_append_right _ (List.mem_cons_self ..)),(fun _ _ _=>by simp[L]),rfl,?_⟩
  refine⟨L .busy none,A₂,[],rfl,(fun _ _ _=>by simp[L]),rfl,?_⟩
  cases he:ex s p with
  | none=>
   refine⟨by simp[BN,he],Bg++[(l,L .ready none)],hsb.app .refl,?_⟩
   simp only[BN,he]
   exact⟨rfl,Bg,BO,rfl⟩
  | some e=>
   obtain⟨c,hc⟩:=Option.isSome_iff_exists.1 (hex s p e he)
   have hj:(some e:Option Exit).bind tK=some c:=hc
   refine⟨by simp[BN,he,hc],Bg++[(l,L .done (some c))],?_,?_⟩
   ·rw[hj];exact hsb.app .refl
   ·simp only[BN,he]
    exact⟨Bg,c,BO,hj,rfl⟩
 ·rintro _ A' ⟨B,hsub,hB⟩
  refine⟨B,hsub,?_⟩
  generalize hr:runs (BN st ex) (s₀,none) xs=r at hB
  obtain⟨⟨s,e⟩,b⟩:=r
  have hrs:=IX hr
  have haft:=fun A hA=>after s e A (by rw[hr]) hA d
  simp only[Instr.endLoop,Instr.getLoop,bind_eq,gq,bind_assoc]
  cases b with
  | true=>
   obtain⟨he,A,hA,rfl⟩:=hB
   simp only at he
   subst he
   refine⟨L .ready none,.inr (List.mem_append_left _ (List.mem_append_right _ (List.mem_cons_self ..))),(fun _ _ _=>by simp[L]),rfl,?_⟩
   refine⟨L .ready none,A,(d,.deferred (some []))::g_ [],by simp,(fun _ _ _=>by simp[L]),rfl,?_⟩
   refine⟨(d,.deferred (some []))::g_ A,?_,haft A hA⟩
   refine Sb.trans (Sb.dF ((hs.perm.2 A).cons _)) ?_
   refine(Sb.dF List.perm_middle.symm).trans (Sb.app .refl (Sb.skip rfl .refl))
  | false=>
   obtain⟨A,c,hA,hc,rfl⟩:=hB
   simp only at hc
   obtain⟨e,rfl,he⟩:=Option.bind_eq_some_iff.1 hc
   refine⟨L .done (some c),.inr (List.mem_append_left _ (List.mem_append_right _ (List.mem_cons_self ..))),(fun _ _ _=>by simp[L]),rfl,?_⟩
   refine⟨L .done (some c),A,(d,.deferred (some []))::g_ [],by simp,(fun _ _ _=>by simp[L]),rfl,?_⟩
   show W x c Q ρ (mark d::ds) _
   refine W.sb (F':=(d,.deferred (some []))::g_ A) ?_ ?_
   ·refine Sb.trans (Sb.dF ((hs.perm.2 A).cons _)) ?_
    refine(Sb.dF List.perm_middle.symm).trans (Sb.app .refl (Sb.skip rfl .refl))
   ·have q:=haft A hA
    cases e <;>simp only[tK,Option.some.injEq]at he <;>first | (cases he;done) | subst he
    ·exact W.exit q
    ·exact W.goto q
    ·exact W.ret q
end Go.aS

/- What goroutines list: a trace without races, kept by a goroutine's own steps. Conditions: none; over any program. -/
namespace Go.aS
open Go.Conc (Before Knows knows_own touchAt touchAt_of touchAt_old noRace_append getElem?_append_old getElem?_append_cases lt_size_of_getElem? touch_of hb_po mem_of_getElem? hb_app ofEvents_eq)
def In(l:Loc)(b:Nat):Prop:=
 match l with
 | .cell a=>a.block=b
 | .obj r=>r=b
 | _=>False

def Own(t:Trace)(g b:Nat):Prop:=∀i a,touchAt t i=some a→In a.loc b→Knows t g i
def Rd(t:Trace)(g b:Nat):Prop:=∀i a,touchAt t i=some a→In a.loc b→a.write=true→Knows t g i
theorem Own.rd{t:Trace}{g b:Nat}(h:Own t g b):Rd t g b:=fun i a h1 h2 _=>h i a h1 h2

structure Zj(t:Trace)(n size:Nat):Prop where
 quiet:∀op∈t,∀m,op.act= .mark m→Fg m=true
 clean:∀said,¬Race said t
 below:∀i a b,touchAt t i=some a→In a.loc b→b<size
 who:∀op∈t,op.g<n

theorem Zj.deaf{t:Trace}{n size:Nat}(h:Zj t n size)(g:Nat):∀i,t.deaf g i=0:=by
 intro i
 induction i with
 | zero=>rfl
 | succ i ih=>
  unfold Trace.deaf
  split
  ·rename_i hh _ _ heq;have:=h.quiet _ (mem_of_getElem? heq) .disable rfl;cases this
  ·rename_i hh _ _ heq;have:=h.quiet _ (mem_of_getElem? heq) .enable rfl;cases this
  ·exact ih
theorem Zj.heard{t:Trace}{n size:Nat}(h:Zj t n size){i:Nat}{op:MemOp}(hi:t[i]? =some op):t.heard i:=⟨op.g,by simp[Trace.g?,hi],h.deaf _ _⟩
theorem Zj.empty{n size:Nat}:Zj #[] n size:=
 ⟨fun op h=>by simp at h,fun said ⟨i,j,hij,⟨a,b,ha,_⟩,_⟩=>by simp[Trace.act?]at ha,fun i a b h=>by simp[touchAt,Trace.act?]at h,fun op h=>by simp at h⟩

theorem fP{t u:Trace}{i:Nat}{a:Touch}(h:touchAt (t++u) i=some a):(i<t.size∧touchAt t i=some a)∨(∃op,(t++u)[i]? =some op∧op∈u∧op.act.touch? =some a):=by
 obtain⟨x,hx,hxa⟩:=touch_of h
 rcases getElem?_append_cases hx with⟨hi,hx'⟩ | ⟨_,hxu⟩
 ·exact .inl ⟨hi,by rw[touchAt_of hx'];exact hxa⟩
 ·exact .inr ⟨x,hx,hxu,hxa⟩

theorem Own.app{t u:Trace}{g b:Nat}(h:Own t g b)(hu:∀op∈u,∀a,op.act.touch? =some a→In a.loc b→op.g=g):Own (t++u) g b:=by
 intro i a ha hl
 rcases fP ha with⟨hi,h1⟩ | ⟨op,ho,hm,h1⟩
 ·exact(h i a h1 hl).app u
 ·have:=knows_own ho
  rwa[hu op hm a h1 hl]at this
theorem Rd.app{t u:Trace}{g b:Nat}(h:Rd t g b)(hu:∀op∈u,∀a,op.act.touch? =some a→In a.loc b→a.write=true→op.g=g):Rd (t++u) g b:=by
 intro i a ha hl hw
 rcases fP ha with⟨hi,h1⟩ | ⟨op,ho,hm,h1⟩
 ·exact(h i a h1 hl hw).app u
 ·have:=knows_own ho
  rwa[hu op hm a h1 hl hw]at this

theorem pz{k:Hp}{M:Nat→Prop}{lo hi:Nat}{e:Event}(h:Bd k M lo hi e){a:Touch}(ht:(MemAct.ofEvent e).touch? =some a):
  ∃b,In a.loc b∧(∀b',In a.loc b'→b'=b)∧a.kind= .plain∧a.write=e.write∧(((k b).isSome=true∧isC (k b)=false∧(a.write=true→M b))∨(lo≤b∧b<hi)):=by
 obtain⟨loc,wr,sync⟩:=e
 unfold Bd at h
 simp only at h
 cases loc with
 | cell ad=>
  simp only at h
  obtain⟨rfl,h⟩:=h
  simp only[MemAct.ofEvent,MemAct.touch?,Option.some.injEq]at ht
  subst ht
  exact⟨ad.block,rfl,fun b' e=>e.symm,rfl,rfl,h⟩
 | obj r=>
  simp only at h
  obtain⟨rfl,h⟩:=h
  simp only[MemAct.ofEvent,MemAct.touch?,Option.some.injEq]at ht
  subst ht
  exact⟨r,rfl,fun b' e=>e.symm,rfl,rfl,h⟩
 | mark m=>
  simp only at h
  cases m <;>simp only[Fg]at h <;>first | (cases h;done) | (simp only[MemAct.ofEvent,MemAct.touch?]at ht;cases ht;done) | (cases wr <;>cases sync <;>simp only[MemAct.ofEvent,MemAct.touch?]at ht <;>cases ht)
 | _=>exact h.elim

theorem IY{k:Hp}{M:Nat→Prop}{lo hi:Nat}{e:Event}(h:Bd k M lo hi e){m:Mark}(hm:MemAct.ofEvent e= .mark m):Fg m=true:=by
 obtain⟨loc,wr,sync⟩:=e
 unfold Bd at h
 simp only at h
 cases loc with
 | mark m'=>
  have e1:(MemAct.ofEvent ⟨.mark m',wr,sync⟩)= .mark m':=by cases wr <;>cases sync <;>rfl
  rw[e1]at hm
  cases hm
  exact h
 | cell ad=>cases wr <;>cases sync <;>cases hm
 | obj r=>cases wr <;>cases sync <;>first | (cases hm;done) | exact absurd h.1 (by simp)
 | _=>exact h.elim

section step
variable{t:Trace}{n j:Nat}{k:Hp}{M:Nat→Prop}{w w':World}{es:Array Event}{fn:FuncId}{pos:String}
theorem mem_ofEvents{op:MemOp}(h:op∈MemOp.ofEvents j fn pos es):∃e∈es,op={g:=j,fn,pos,act:=.ofEvent e}:=by
 rw[ofEvents_eq]at h
 obtain⟨e,he,rfl⟩:=Array.mem_map.1 h
 exact⟨e,he,rfl⟩

theorem Zj.step(h:Zj t n w.heap.size)(hj:j<n)(hk:yF k w)(g:dX k M w w' es)(hO:∀b,M b→isC (k b)=false→Own t j b)(hR:∀b,(k b).isSome=true→isC (k b)=false→Rd t j b):
  Zj (t++MemOp.ofEvents j fn pos es) n w'.heap.size:=by
 refine⟨fun op hop m hm=>?_,fun said=>?_,fun i a b ha hb=>?_,fun op hop=>?_⟩
 ·rcases Array.mem_append.1 hop with h1 | h1
  ·exact h.quiet op h1 m hm
  ·obtain⟨e,he,rfl⟩:=mem_ofEvents h1
   exact IY (g.evs e he) hm
 ·refine noRace_append (h.clean said) (fun op hop=>by obtain⟨e,_,rfl⟩:=mem_ofEvents hop;rfl) fun i a ha op hop b hb hc=>?_
  obtain⟨e,he,rfl⟩:=mem_ofEvents hop
  obtain⟨bl,h1,_,h3,h4,h5⟩:=pz (g.evs e he) hb
  have hin:In a.loc bl:=by rw[hc.1];exact h1
  rcases h5 with⟨h5,h6,h7⟩ | h5
  ·cases hw:b.write with
   | true=>exact hO bl (h7 hw) h6 i a ha hin
   | false=>
    have haw:a.write=true:=by
     rcases hc.2.2.1 with h | h
     ·exact h
     ·rw[hw]at h;cases h
    exact hR bl h5 h6 i a ha hin haw
  ·exact absurd (h.below i a bl ha hin) (by omega)
 ·rcases fP ha with⟨_,h1⟩ | ⟨op,_,hm,h1⟩
  ·exact Nat.lt_of_lt_of_le (h.below i a b h1 hb) g.size
  ·obtain⟨e,he,rfl⟩:=mem_ofEvents hm
   obtain⟨bl,_,h2,_,_,h5⟩:=pz (g.evs e he) h1
   obtain rfl:=h2 b hb
   rcases h5 with⟨h5,_⟩ | h5
   ·obtain⟨o,ho⟩:=Option.isSome_iff_exists.1 h5
    exact Nat.lt_of_lt_of_le (hk.lt ho) g.size
   ·exact h5.2
 ·rcases Array.mem_append.1 hop with h1 | h1
  ·exact h.who op h1
  ·obtain⟨e,_,rfl⟩:=mem_ofEvents h1
   exact hj

theorem OX(b:Nat)(h:isC (snap k w w' b)=false):isC (k b)=false:=by
 cases hc:isC (k b)with
 | false=>rfl
 | true=>simp[snap,hc]at h

theorem aGn(h:Zj t n w.heap.size)(b:Nat)(hb:grown M w w' b)(hO:M b→Own t j b):Own (t++MemOp.ofEvents j fn pos es) j b:=by
 refine Own.app ?_ fun op hop _ _ _=>by obtain⟨e,_,rfl⟩:=mem_ofEvents hop;rfl
 rcases hb with hb | hb
 ·exact hO hb
 ·exact fun i a ha hl=>absurd (h.below i a b ha hl) (by omega)
theorem aHD(h:Zj t n w.heap.size)(hR:∀b,(k b).isSome=true→isC (k b)=false→Rd t j b):∀b,(snap k w w' b).isSome=true→isC (snap k w w' b)=false→Rd (t++MemOp.ofEvents j fn pos es) j b:=by
 intro b hb hc
 refine Rd.app ?_ fun op hop _ _ _ _=>by obtain⟨e,_,rfl⟩:=mem_ofEvents hop;rfl
 by_cases hk:(k b).isSome=true
 ·exact hR b hk (OX b hc)
 ·have hkn:k b=none:=by simpa using hk
  have:w.heap.size≤b:=by
   simp only[snap,hkn,isC]at hb
   by_cases h3:w.heap.size≤b∧b<w'.heap.size
   ·exact h3.1
   ·have h7:(decide (w.heap.size≤b)&&decide (b<w'.heap.size))=false:=by simpa using h3
    simp[h7]at hb
  exact fun i a ha hl=>absurd (h.below i a b ha hl) (by omega)
theorem UR{i b:Nat}(g:dX k M w w' es)(h:Own t i b)(hb:b<w.heap.size)(hn:(k b).isSome=true→isC (k b)=true):Own (t++MemOp.ofEvents j fn pos es) i b:=by
 refine h.app fun op hop a ha hl=>?_
 obtain⟨e,he,rfl⟩:=mem_ofEvents hop
 obtain⟨bl,_,h2,_,_,h5⟩:=pz (g.evs e he) ha
 obtain rfl:=h2 b hl
 rcases h5 with⟨h5,h6,_⟩ | h5
 ·rw[hn h5]at h6;cases h6
 ·omega
theorem WH{i b:Nat}(g:dX k M w w' es)(h:Rd t i b)(hb:b<w.heap.size)(hn:M b→isC (k b)=true):Rd (t++MemOp.ofEvents j fn pos es) i b:=by
 refine h.app fun op hop a ha hl hw=>?_
 obtain⟨e,he,rfl⟩:=mem_ofEvents hop
 obtain⟨bl,_,h2,_,_,h5⟩:=pz (g.evs e he) ha
 obtain rfl:=h2 b hl
 rcases h5 with⟨h5,h6,h7⟩ | h5
 ·rw[hn (h7 hw)]at h6;cases h6
 ·omega
end step
end Go.aS

/- Goroutines that send over a channel of their own, and the one that starts them and receives: processes, and what holds of the machine. Conditions: none; over any program. -/
namespace Go.aS
open Go.Conc (crowd parked rcase scase QuitsIn Before Knows knows_own touchAt touchAt_of touchAt_old getElem?_append_old getElem?_append_cases lt_size_of_getElem? touch_of hb_po hb_app ofEvents_eq woken)
def gch(l:List Value):Obj:=.chan 1 l.toArray false 0 0 false
def aBw:Obj:=.chan 1 #[] true 0 0 false
def hset(k:Hp)(c:Nat)(o:Obj):Hp:=⟨fun b=>if b=c then some o else k b,k.z⟩
def Dom(k:Hp)(M:Nat→Prop):Prop:=∀b,M b→(k b).isSome=true

def avn(c:Nat):Array Event:= #[⟨.obj c,false,true⟩,⟨.obj c,true,true⟩]

inductive Ch(P:Program)(c:Nat):Goroutine→Hp→(Nat→Prop)→Prop
 | step {g:Goroutine} {k:Hp} {M:Nat→Prop} (hs:g.status= .running)
   (ok:∀w,yF k w→Dom k M→∃g' w' es,stepG P false g w= .go g' w' es∧dX k M w w' es)
   (h:∀w g' w' es,yF k w→Dom k M→stepG P false g w= .go g' w' es→Ch P c g' (snap k w w') (grown M w w')):Ch P c g k M
 | send {g g':Goroutine} {k:Hp} {M:Nat→Prop} {v z:Value} {l:List Value} (hs:g.status= .running) (hk:k c=some (gch (v::l)))
   (e:∀w,stepG P false g w= .comm g' #[scase c v z] true .send w #[]) (h:Ch P c (g'.finishComm P #[scase c v z] .send 0 undef false) (hset k c (gch l)) M):Ch P c g k M
 | close {g g':Goroutine} {k:Hp} {M:Nat→Prop} {n:Nat} (hs:g.status= .running) (hk:k c=some (gch [])) (hw:mayWake P g=true) (hs':g'.status= .running)
   (e:∀(w:World) s r,w.heap[c]? =some (.chan 0 #[] false s r false)→stepG P false g w= .go g' (w.shut c s r false) (avn c)) (h:QuitsIn P n g'):Ch P c g k M

inductive Mn(P:Program)(Fin:Goroutine→Hp→(Nat→Prop)→Prop):Goroutine→Hp→(Nat→Prop)→Prop
 | fin {g:Goroutine} {k:Hp} {M:Nat→Prop} (h:Fin g k M):Mn P Fin g k M
 | step {g:Goroutine} {k:Hp} {M:Nat→Prop} (hs:g.status= .running)
   (ok:∀w,yF k w→Dom k M→∃g' w' es,stepG P true g w= .go g' w' es∧dX k M w w' es)
   (h:∀w g' w' es,yF k w→Dom k M→stepG P true g w= .go g' w' es→Mn P Fin g' (snap k w w') (grown M w w')):Mn P Fin g k M
 | spawn {g g' child:Goroutine} {k kc:Hp} {M M':Nat→Prop} {c:Nat} {l:List Value} (hs:g.status= .running) (hs':g'.status= .running) (hsc:child.status= .running)
   (e:∀w,stepG P true g w= .spawn g' child w #[]) (hk:k c=some acF) (hM:M c) (hkc:kc c=some (gch l))
   (hsub:∀b o,b≠c→kc b=some o→k b=some o∧o.isChan=false) (hc:Ch P c child kc (· =c))
   (hM':Less k M' M) (aH5:M' c) (hsep:∀b,b≠c→(kc b).isSome=true→¬M' b) (h:Mn P Fin g' (hset k c (gch l)) M'):Mn P Fin g k M
 | recv {g g':Goroutine} {k:Hp} {M:Nat→Prop} {c:Nat} {v z:Value} {l:List Value} (hs:g.status= .running) (hk:k c=some (gch (v::l))) (hM:M c) (hg':g'.frame=g.frame∧g'.callers=g.callers∧g'.dying=g.dying)
   (e:∀w,stepG P true g w= .comm g' #[rcase c z] true (.recv true) w #[]) (h:Mn P Fin (g'.finishComm P #[rcase c z] (.recv true) 0 v true) (hset k c (gch l)) M):Mn P Fin g k M
 | done {g g':Goroutine} {k:Hp} {M:Nat→Prop} {c:Nat} {z:Value} (hs:g.status= .running) (hk:k c=some (gch [])) (hM:M c) (hg':g'.frame=g.frame∧g'.callers=g.callers∧g'.dying=g.dying)
   (e:∀w,stepG P true g w= .comm g' #[rcase c z] true (.recv true) w #[]) (h:Mn P Fin (g'.finishComm P #[rcase c z] (.recv true) 0 z false) (hset k c aBw) M):Mn P Fin g k M

/-! ### How far a sender is -/
inductive KC where
 | run (g:Goroutine) (k:Hp) (M:Nat→Prop)
 | acV (k:Hp) (M:Nat→Prop)
 | quit (n:Nat)

inductive KR(P:Program)(c:Nat):KC→KC→Prop
 | step {g g':Goroutine} {k:Hp} {M:Nat→Prop} {w w':World} {es:Array Event} {s r:Nat} (ha:yF k w) (hd:Dom k M) (ho:w.heap[c]? =some (.chan 0 #[] false s r false)) (e:stepG P false g w= .go g' w' es) (hg:dX k M w w' es):KR P c (.run g' (snap k w w') (grown M w w')) (.run g k M)
 | acV {g:Goroutine} {k:Hp} {M:Nat→Prop}:KR P c (.acV k M) (.run g k M)
 | quit {g:Goroutine} {k:Hp} {M:Nat→Prop} {n:Nat}:KR P c (.quit n) (.run g k M)
 | quits {n:Nat}:KR P c (.quit n) (.quit (n+1))

theorem auS{P:Program}{c:Nat}:∀n,Acc (KR P c) (.quit n)
 | 0=>⟨_,fun y hy=>by cases hy⟩
 | n+1=>⟨_,fun y hy=>by cases hy;exact auS n⟩
theorem auT{P:Program}{c:Nat}{k:Hp}{M:Nat→Prop}:Acc (KR P c) (.acV k M):=⟨_,fun y hy=>by cases hy⟩
theorem Ch.acc{P:Program}{c:Nat}{g:Goroutine}{k:Hp}{M:Nat→Prop}(h:Ch P c g k M):Acc (KR P c) (.run g k M):=by
 induction h with
 | step hs ok h ih=>
  refine⟨_,fun y hy=>?_⟩
  cases hy with
  | step ha hd ho e hg=>exact ih _ _ _ _ ha hd e
  | acV=>exact auT
  | quit=>exact auS _
 | send hs hk e h ih=>
  refine⟨_,fun y hy=>?_⟩
  cases hy with
  | step ha hd ho e' hg=>rw[e]at e';cases e'
  | acV=>exact auT
  | quit=>exact auS _
 | close hs hk hw hs' e h=>
  refine⟨_,fun y hy=>?_⟩
  cases hy with
  | step ha hd ho e' hg=>
   rw[e _ _ _ ho]at e'
   cases e'
   have:=hg.chans _ _ ho rfl
   have hlt:=m_ ho
   simp[World.shut,hlt]at this
  | acV=>exact auT
  | quit=>exact auS _

inductive LR(P:Program):List (Nat×KC)→List (Nat×KC)→Prop
 | here {c:Nat} {x x':KC} {l:List (Nat×KC)} (h:KR P c x' x):LR P ((c,x')::l) ((c,x)::l)
 | there {y:Nat×KC} {l l':List (Nat×KC)} (h:LR P l' l):LR P (y::l') (y::l)

theorem aGo{P:Program}:∀{l:List (Nat×KC)},(∀p∈l,Acc (KR P p.1) p.2)→Acc (LR P) l
 | [],_=>⟨_,fun y hy=>by cases hy⟩
 | (
    c,x)::l,h=>by
  have hx:=h _ (List.mem_cons_self ..)
  have hl:=aGo (l:=l) fun p hp=>h p (List.mem_cons_of_mem _ hp)
  simp only at hx
  clear h
  induction hx generalizing l with
  | intro x _ ihx=>
   induction hl with
   | intro l hl ihl=>
    refine⟨_,fun y hy=>?_⟩
    cases hy with
    | here h=>exact ihx _ h _ (Acc.intro _ hl)
    | there h=>exact ihl _ h

theorem LR.at{P:Program}{c:Nat}{x x':KC}(h:KR P c x' x):∀{l:List (Nat×KC)} {i:Nat},l[i]? =some (c,x)→LR P (l.set i (c,x')) l
 | [],i,e=>by simp at e
 | y::l,0,e=>by
  simp only[List.getElem?_cons_zero,Option.some.injEq]at e
  subst e
  exact .here h
 | y::l,i+1,e=>.there (LR.at h (by simpa using e))

/-! ### What holds of the machine -/
def Same(g g₁:Goroutine):Prop:=g₁.frame=g.frame∧g₁.callers=g.callers∧g₁.dying=g.dying
theorem Same.step{P:Program}{main:Bool}{g g₁:Goroutine}(h:Same g g₁)(w:World):stepG P main g₁ w=stepG P main g w:=Conc.stepG_same h.1 h.2.1 h.2.2 w

def Apart(M:Nat→Prop)(k:Hp):Prop:=∀b,M b→(k b).isSome=true→isC (k b)=true

structure Live(w:World)(t:Trace)(k₀:Hp)(aO:Nat→Prop)(i c:Nat)(k:Hp)(M:Nat→Prop):Prop where
 uG:yF k w
 dom:Dom k M
 own:∀b,M b→isC (k b)=false→Own t (i+1) b
 rd:∀b,(k b).isSome=true→isC (k b)=false→Rd t (i+1) b
 mc:M c
 ghost:∃l,k c=some (gch l)∧k₀ c=some (gch l)
 m0:aO c
 opened:∃s r,w.heap[c]? =some (.chan 0 #[] false s r false)
 rdc:Rd t (i+1) c
 ap0:Apart M k₀
 ap1:Apart aO k

def KC.act:KC→Option (Hp×(Nat→Prop))
 | .run _ k M=>some (k,M)
 | .acV k M=>some (k,M)
 | .quit _=>none

def Kid(P:Program)(w:World)(t:Trace)(k₀:Hp)(aO:Nat→Prop)(i c:Nat)(g:Goroutine):KC→Prop
 | .run g' k M=>g'=g∧g.status= .running∧Ch P c g k M∧Live w t k₀ aO i c k M
 | .acV k M=>∃g' v l z,g=parked g' #[scase c v z] .send∧k c=some (gch (v::l))∧Ch P c (g'.finishComm P #[scase c v z] .send 0 undef false) (hset k c (gch l)) M∧Live w t k₀ aO i c k M
 | .quit n=>QuitsIn P n g∧((k₀ c=some aBw∧∀j a,touchAt t j=some a→t.g? j=some (i+1)→Knows t 0 j)∨
   (k₀ c=some (gch [])∧aO c∧(∃s r,w.heap[c]? =some (.chan 0 #[] true s r false))∧∃pc,t.act? pc=some (.close c)∧t.g? pc=some (i+1)∧∀j a,touchAt t j=some a→t.g? j=some (i+1)→Before t j pc))

class Base where
 ref:World
structure Kept(w w':World):Prop where
 os:w'.os=w.os
 output:w'.output=w.output
 tape:w'.tape=w.tape
 size:w.heap.size≤w'.heap.size
 block:∀b,b<w.heap.size→w'.heap[b]? =w.heap[b]?
theorem Kept.refl(w:World):Kept w w:=⟨rfl,rfl,rfl,Nat.le_refl _,fun _ _=>rfl⟩
theorem Kept.guar{r w w':World}{k:Hp}{M:Nat→Prop}{es:Array Event}(h:Kept r w)(g:dX k M w w' es)(hl:∀b,M b→r.heap.size≤b):Kept r w':=
 ⟨g.os.trans h.os,g.output.trans h.output,g.tape.trans h.tape,Nat.le_trans h.size g.size,fun b hb=>(g.keep b (Nat.lt_of_lt_of_le hb h.size) fun hm=>by have:=hl b hm;omega).trans (h.block b hb)⟩
theorem Kept.off{r w w':World}{c:Nat}(h:Kept r w)(h1:w'.os=w.os)(h2:w'.output=w.output)(h3:w'.tape=w.tape)(hsz:w'.heap.size=w.heap.size)(ho:∀b,b≠c→w'.heap[b]? =w.heap[b]?)(hc:r.heap.size≤c):Kept r w':=
 ⟨h1.trans h.os,h2.trans h.output,h3.trans h.tape,by rw[hsz];exact h.size,fun b hb=>(ho b (by omega)).trans (h.block b hb)⟩
theorem aFm{n:Nat}{M:Nat→Prop}{w w':World}(h:∀b,M b→n≤b)(hn:n≤w.heap.size):∀b,grown M w w' b→n≤b:=fun b hb=>by
 rcases hb with hb | hb
 ·exact h b hb
 ·omega

structure MInv[Base](P:Program)(gs:Array Goroutine)(w:World)(t:Trace)(k₀:Hp)(aO:Nat→Prop)(ks:List (Nat×KC)):Prop where
 size:gs.size=ks.length+1
 uG:yF k₀ w
 dom:Dom k₀ aO
 tok:Zj t (ks.length+1) w.heap.size
 own:∀b,aO b→(isC (k₀ b)=false∨k₀ b=some acF)→Own t 0 b
 rd:∀b,(k₀ b).isSome=true→isC (k₀ b)=false→Rd t 0 b
 kid:∀i c x,ks[i]? =some (c,x)→∃g,gs[i+1]? =some g∧Kid P w t k₀ aO i c g x
 apart:∀(i j c c':Nat) (x x':KC),i≠j→ks[i]? =some (c,x)→ks[j]? =some (c',x')→c≠c'∧∀k M k' M',x.act=some (k,M)→x'.act=some (k',M')→Apart M k'
 fresh:∀c,k₀ c=some acF→w.heap[c]? =some acF
 has:∀c l,k₀ c=some (gch l)→∃(i:Nat) (x:KC),ks[i]? =some (c,x)
 base:Kept Base.ref w
 low:∀b,aO b→Base.ref.heap.size≤b
 aFP:∀(i c:Nat) (x:KC) (k:Hp) (M:Nat→Prop),ks[i]? =some (c,x)→x.act=some (k,M)→∀b,M b→Base.ref.heap.size≤b

theorem azS{l l':List Value}(h:(some (gch l):Option Obj)=some (gch l')):l=l':=by
 simp only[gch,Option.some.injEq,Obj.chan.injEq,true_and,and_true]at h
 simpa using h
theorem awE{l:List Value}:gch l≠acF:=by simp[gch,acF]
theorem aAV:aBw≠acF:=by simp[aBw,acF]
theorem aBx{l:List Value}:gch l≠aBw:=by simp[gch,aBw]

/-! ### small laws -/
theorem bH(k:Hp)(c:Nat)(o:Obj):hset k c o c=some o:=by simp[hset]
theorem bY(k:Hp){c b:Nat}(o:Obj)(h:b≠c):hset k c o b=k b:=by simp[hset,h]
theorem WU{k:Hp}{c b:Nat}{o o':Obj}(h:k c=some o')(ho':o'.isChan=true)(ho:o.isChan=true):isC (hset k c o b)=isC (k b)∧(hset k c o b).isSome=(k b).isSome:=by
 by_cases hb:b=c
 ·subst hb;simp[bH,h,isC,ho,ho']
 ·rw[bY _ _ hb];exact⟨rfl,rfl⟩

theorem yF.rely{k k':Hp}{M:Nat→Prop}{w w':World}{es:Array Event}(ha:yF k' w)(hb:yF k w)(g:dX k M w w' es)(hap:Apart M k'):yF k' w':=by
 intro b o ho
 obtain⟨o',h1,h2⟩:=ha b o ho
 by_cases hm:M b
 ·have hc:o.isChan=true:=by
   have:=hap b hm (by rw[ho];rfl)
   rw[ho]at this
   exact this
  have hc':o'.isChan=true:=by
   rcases h2 with h2 | h2
   ·rw[h2];exact hc
   ·exact h2.2
  exact⟨o',g.chans b o' h1 hc',h2⟩
 ·exact⟨o',by rw[g.keep b (m_ h1) hm];exact h1,h2⟩

theorem O6{k:Hp}{M:Nat→Prop}{w w':World}(h:Apart M k)(ha:yF k w):Apart (grown M w w') k:=by
 intro b hb hs
 rcases hb with hb | hb
 ·exact h b hb hs
 ·obtain⟨o,ho⟩:=Option.isSome_iff_exists.1 hs
  have:=ha.lt ho
  omega
theorem Rj{k k':Hp}{M':Nat→Prop}{w w':World}(h:Apart M' k)(hd:Dom k' M')(ha:yF k' w):Apart M' (snap k w w'):=by
 intro b hb hs
 obtain⟨o,ho⟩:=Option.isSome_iff_exists.1 (hd b hb)
 have hlt:=ha.lt ho
 cases hc:isC (k b)with
 | true=>simp[snap,hc]
 | false=>
  have hk:(k b).isSome=true:=by
   cases hk:(k b).isSome with
   | true=>rfl
   | false=>
    have h3:¬w.heap.size≤b:=by omega
    simp[snap,hc,hk,h3]at hs
  rw[h b hb hk]at hc;cases hc

theorem vk{k:Hp}{w w':World}{c:Nat}{o:Obj}(h:k c=some o)(hc:o.isChan=true):snap k w w' c=some o:=by simp[snap,h,isC,hc]

theorem aAW{P:Program}{g g' o:Goroutine}{w':World}(h:o.again w'=o):woken P g g' w' o=o:=by
 unfold woken;split
 ·exact h
 ·rfl

section
variable{P:Program}{gs:Array Goroutine}{w w':World}{t:Trace}{k₀:Hp}{aO:Nat→Prop}{ks:List (Nat×KC)}
theorem Kid.again{i c:Nat}{g:Goroutine}{x:KC}(h:Kid P w t k₀ aO i c g x)(hc:∀(b:Nat) (o:Obj),w.heap[b]? =some o→o.isChan=true→w'.heap[b]? =some o):g.again w'=g:=by
 cases x with
 | run g' k M=>exact Conc.again_running w' (.inl h.2.1)
 | acV k M=>
  obtain⟨g',v,l,z,rfl,_,_,L⟩:=h
  obtain⟨s,r,ho⟩:=L.opened
  exact Conc.again_send_open (hc _ _ ho rfl)
 | quit n=>
  refine Conc.again_running w' ?_
  rcases h.1.status with h | h
  ·exact .inl h
  ·exact .inr h

theorem Kid.main{i c:Nat}{g:Goroutine}{x:KC}{es:Array Event}{fn:FuncId}{pos:String}(h:Kid P w t k₀ aO i c g x)(hk:yF k₀ w)(gu:dX k₀ aO w w' es):Kid P w' (t++MemOp.ofEvents 0 fn pos es) (snap k₀ w w') (grown aO w w') i c g x:=by
 have live:∀{k M},Live w t k₀ aO i c k M→Live w' (t++MemOp.ofEvents 0 fn pos es) (snap k₀ w w') (grown aO w w') i c k M:=by
  intro k M L
  have lt:∀b,(k b).isSome=true→b<w.heap.size:=fun b hb=>let⟨o,ho⟩:=Option.isSome_iff_exists.1 hb;L.uG.lt ho
  refine⟨L.uG.rely hk gu L.ap1,L.dom,fun b hb hc=>UR gu (L.own b hb hc) (lt b (L.dom b hb)) (L.ap0 b hb),fun b hb hc=>WH gu (L.rd b hb hc) (lt b hb) (fun hm=>?_),L.mc,?_,.inl L.m0,?_,?_,?_,?_⟩
  ·rw[L.ap1 b hm hb]at hc;cases hc
  ·obtain⟨l,h1,h2⟩:=L.ghost
   exact⟨l,h1,vk h2 rfl⟩
  ·obtain⟨s,r,ho⟩:=L.opened
   exact⟨s,r,gu.chans _ _ ho rfl⟩
  ·obtain⟨l,_,h2⟩:=L.ghost
   exact WH gu L.rdc (hk.lt h2) fun _=>by rw[h2];rfl
  ·exact Rj L.ap0 L.dom L.uG
  ·exact O6 L.ap1 L.uG
 cases x with
 | run g' k M=>exact⟨h.1,h.2.1,h.2.2.1,live h.2.2.2⟩
 | acV k M=>
  obtain⟨g',v,l,z,h1,h2,h3,L⟩:=h
  exact⟨g',v,l,z,h1,h2,h3,live L⟩
 | quit n=>
  have others:∀j a,touchAt (t++MemOp.ofEvents 0 fn pos es) j=some a→(t++MemOp.ofEvents 0 fn pos es).g? j=some (i+1)→j<t.size∧touchAt t j=some a∧t.g? j=some (i+1):=by
   intro j a ha hg
   rcases fP ha with⟨hj,h1⟩ | ⟨op,ho,hm,h1⟩
   ·refine⟨hj,h1,?_⟩
    simpa[Trace.g?,getElem?_append_old hj]using hg
   ·obtain⟨e,_,rfl⟩:=mem_ofEvents hm
    simp[Trace.g?,ho]at hg
  refine⟨h.1,?_⟩
  rcases h.2 with⟨h1,h2⟩ | ⟨h1,h2,⟨s,r,h3⟩,pc,h4,h5,h6⟩
  ·exact .inl ⟨vk h1 rfl,fun j a ha hg=>let⟨_,x,y⟩:=others j a ha hg;(h2 j a x y).app _⟩
  ·have hpc:pc<t.size:=by
    unfold Trace.act? at h4
    obtain⟨op,ho,_⟩:=Option.map_eq_some_iff.1 h4
    exact lt_size_of_getElem? ho
   exact .inr ⟨vk h1 rfl,.inl h2,⟨s,r,gu.chans _ _ h3 rfl⟩,pc,by simpa[Trace.act?,getElem?_append_old hpc]using h4,by simpa[Trace.g?,getElem?_append_old hpc]using h5,fun j a ha hg=>let⟨_,x,y⟩:=others j a ha hg;(h6 j a x y).app _⟩

theorem yF.isC{k:Hp}{w:World}(h:yF k w){c:Nat}{o:Obj}(hc:w.heap[c]? =some o)(ho:o.isChan=true)(hk:(k c).isSome=true):aS.isC (k c)=true:=by
 obtain⟨x,hx⟩:=Option.isSome_iff_exists.1 hk
 obtain⟨o',h1,h2⟩:=h c x hx
 rw[hc]at h1
 cases h1
 rw[hx]
 rcases h2 with h2 | h2
 ·rw[←h2];exact ho
 ·exact h2.1

theorem Kid.other{i j c:Nat}{g:Goroutine}{x:KC}{k:Hp}{M:Nat→Prop}{es:Array Event}{fn:FuncId}{pos:String}(hij:i≠j)(h:Kid P w t k₀ aO i c g x)(hk:yF k w)(gu:dX k M w w' es)
  (hap:∀k' M',x.act=some (k',M')→Apart M k'∧Apart M' k):Kid P w' (t++MemOp.ofEvents (j+1) fn pos es) k₀ aO i c g x:=by
 have live:∀{k' M'},Apart M k'→Apart M' k→Live w t k₀ aO i c k' M'→Live w' (t++MemOp.ofEvents (j+1) fn pos es) k₀ aO i c k' M':=by
  intro k' M' a1 a2 L
  have lt:∀b,(k' b).isSome=true→b<w.heap.size:=fun b hb=>let⟨o,ho⟩:=Option.isSome_iff_exists.1 hb;L.uG.lt ho
  obtain⟨s,r,ho⟩:=L.opened
  refine⟨L.uG.rely hk gu a1,L.dom,fun b hb hc=>UR gu (L.own b hb hc) (lt b (L.dom b hb)) (a2 b hb),fun b hb hc=>WH gu (L.rd b hb hc) (lt b hb) (fun hm=>?_),L.mc,L.ghost,L.m0,⟨s,r,gu.chans _ _ ho rfl⟩,?_,L.ap0,L.ap1⟩
  ·rw[a1 b hm hb]at hc;cases hc
  ·refine L.rdc.app fun op hop a ha hl hw=>?_
   obtain⟨e,he,rfl⟩:=mem_ofEvents hop
   obtain⟨bl,_,h2,_,_,h5⟩:=pz (gu.evs e he) ha
   obtain rfl:=h2 c hl
   rcases h5 with⟨h5,h6,_⟩ | h5
   ·rw[hk.isC ho rfl h5]at h6;cases h6
   ·have:=m_ ho;omega
 cases x with
 | run g' k' M'=>exact⟨h.1,h.2.1,h.2.2.1,live (hap k' M' rfl).1 (hap k' M' rfl).2 h.2.2.2⟩
 | acV k' M'=>
  obtain⟨g',v,l,z,h1,h2,h3,L⟩:=h
  exact⟨g',v,l,z,h1,h2,h3,live (hap k' M' rfl).1 (hap k' M' rfl).2 L⟩
 | quit n=>
  have others:∀m a,touchAt (t++MemOp.ofEvents (j+1) fn pos es) m=some a→(t++MemOp.ofEvents (j+1) fn pos es).g? m=some (i+1)→m<t.size∧touchAt t m=some a∧t.g? m=some (i+1):=by
   intro m a ha hg
   rcases fP ha with⟨hj,h1⟩ | ⟨op,ho,hm,h1⟩
   ·refine⟨hj,h1,?_⟩
    simpa[Trace.g?,getElem?_append_old hj]using hg
   ·obtain⟨e,_,rfl⟩:=mem_ofEvents hm
    simp[Trace.g?,ho]at hg
    exact absurd hg.symm hij
  refine⟨h.1,?_⟩
  rcases h.2 with⟨h1,h2⟩ | ⟨h1,h2,⟨s,r,h3⟩,pc,h4,h5,h6⟩
  ·exact .inl ⟨h1,fun m a ha hg=>let⟨_,x,y⟩:=others m a ha hg;(h2 m a x y).app _⟩
  ·have hpc:pc<t.size:=by
    unfold Trace.act? at h4
    obtain⟨op,ho,_⟩:=Option.map_eq_some_iff.1 h4
    exact lt_size_of_getElem? ho
   exact .inr ⟨h1,h2,⟨s,r,gu.chans _ _ h3 rfl⟩,pc,by simpa[Trace.act?,getElem?_append_old hpc]using h4,by simpa[Trace.g?,getElem?_append_old hpc]using h5,fun m a ha hg=>let⟨_,x,y⟩:=others m a ha hg;(h6 m a x y).app _⟩

theorem getElem?_set'{ks:List (Nat×KC)}{i j:Nat}{y p:Nat×KC}(h:(ks.set i y)[j]? =some p):(j=i∧p=y∧i<ks.length)∨(j≠i∧ks[j]? =some p):=by
 rw[List.getElem?_set]at h
 split at h
 ·rename_i e
  subst e
  split at h
  ·rename_i hl
   cases h
   exact .inl ⟨rfl,rfl,hl⟩
  ·cases h
 ·rename_i e
  exact .inr ⟨fun x=>e x.symm,h⟩

theorem has_set{ks:List (Nat×KC)}{i j c c':Nat}{x y z:KC}(hi:ks[i]? =some (c,y))(hj:ks[j]? =some (c',x)):∃(m:Nat) (x':KC),(ks.set i (c,z))[m]? =some (c',x'):=by
 by_cases hij:i=j
 ·subst hij
  rw[hi]at hj;cases hj
  exact⟨i,z,by rw[List.getElem?_set];simp;rcases Nat.lt_or_ge i ks.length with h | h;exact h;rw[List.getElem?_eq_none h]at hi;cases hi⟩
 ·exact⟨j,x,by rw[List.getElem?_set,if_neg hij];exact hj⟩

theorem ayx{α:Type}{l:List α}{i:Nat}{p:α}(h:l[i]? =some p):i<l.length:=by
 rcases Nat.lt_or_ge i l.length with h' | h'
 ·exact h'
 ·rw[List.getElem?_eq_none h']at h;cases h

theorem MInv.aJT[Base]{i c:Nat}{g g':Goroutine}{k:Hp}{M:Nat→Prop}{es:Array Event}{fn:FuncId}{pos:String}(I:MInv P gs w t k₀ aO ks)(hi:ks[i]? =some (c,.run g k M))(L:Live w t k₀ aO i c k M)(gu:dX k M w w' es)(hg':g'.status= .running)
  (hc:Ch P c g' (snap k w w') (grown M w w')) {gs':Array Goroutine} (hs:gs'.size=gs.size) (hgi:gs'[i+1]? =some g') (hgo:∀m,m≠i+1→0<m→gs'[m]? =gs[m]?):
  MInv P gs' w' (t++MemOp.ofEvents (i+1) fn pos es) k₀ aO (ks.set i (c,.run g' (snap k w w') (grown M w w'))):=by
 have hil:i<ks.length:=ayx hi
 have hi1:i+1<ks.length+1:=by omega
 have lt:∀{b o},k₀ b=some o→b<w.heap.size:=fun h=>I.uG.lt h
 have htok:=I.tok.step (fn:=fn) (pos:=pos) hi1 L.uG gu (fun b hb hc=>L.own b hb hc) L.rd
 refine⟨by rw[hs,I.size,List.length_set],I.uG.rely L.uG gu L.ap0,I.dom,by rw[List.length_set];exact htok,fun b hb hcb=>?_,fun b hb hcb=>?_,fun j c' x hj=>?_,fun j m c' c'' x x' hjm hj hm=>?_,fun c' hc'=>?_,fun c' l hl=>?_,I.base.guar gu (I.aFP i c _ k M hi rfl),I.low,fun j c' x k' M' hj hx=>?_⟩
 ·
  obtain⟨o,ho⟩:=Option.isSome_iff_exists.1 (I.dom b hb)
  exact UR gu (I.own b hb hcb) (lt ho) (L.ap1 b hb)
 ·obtain⟨o,ho⟩:=Option.isSome_iff_exists.1 hb
  refine WH gu (I.rd b hb hcb) (lt ho) fun hm=>?_
  rw[L.ap0 b hm hb]at hcb;cases hcb
 ·rcases getElem?_set' hj with⟨rfl,e,_⟩ | ⟨hne,hj⟩
  ·cases e
   refine⟨g',hgi,rfl,hg',hc,?_⟩
   obtain⟨s,r,ho⟩:=L.opened
   refine⟨qZ L.uG gu,u_ L.uG L.dom gu.size,fun b hb hcb=>aGn I.tok b hb fun hm=>L.own b hm (OX b hcb),aHD I.tok L.rd,.inl L.mc,?_,L.m0,⟨s,r,gu.chans _ _ ho rfl⟩,?_,?_,?_⟩
   ·obtain⟨l,h1,h2⟩:=L.ghost
    exact⟨l,vk h1 rfl,h2⟩
   ·exact L.rdc.app fun op hop a ha hl hw=>by obtain⟨e,_,rfl⟩:=mem_ofEvents hop;rfl
   ·exact O6 L.ap0 I.uG
   ·exact Rj L.ap1 I.dom I.uG
  ·obtain⟨gj,h1,h2⟩:=I.kid j c' x hj
   refine⟨gj,by rw[hgo (j+1) (by omega) (by omega)];exact h1,h2.other hne L.uG gu fun k' M' hx=>?_⟩
   exact⟨(I.apart i j c c' _ x (Ne.symm hne) hi hj).2 k M k' M' rfl hx,(I.apart j i c' c x _ hne hj hi).2 k' M' k M hx rfl⟩
 ·
  rcases getElem?_set' hj with⟨ej,e,_⟩ | ⟨hne,hj'⟩
  ·rcases getElem?_set' hm with⟨em,_,_⟩ | ⟨hne',hm'⟩
   ·exact absurd (ej.trans em.symm) hjm
   ·subst ej
    obtain⟨e1,e2⟩:=Prod.mk.inj e
    obtain⟨h1,h2⟩:=I.apart j m c c'' _ x' hjm hi hm'
    refine⟨by rw[e1];exact h1,fun k1 M1 k2 M2 e3 e4=>?_⟩
    rw[e2]at e3
    cases e3
    obtain⟨gm,_,h4⟩:=I.kid m c'' x' hm'
    have La:yF k2 w:=by
     cases x' with
     | run _ _ _=>cases e4;exact h4.2.2.2.uG
     | acV _ _=>cases e4;obtain⟨_,_,_,_,_,_,_,L'⟩:=h4;exact L'.uG
     | quit _=>cases e4
    exact O6 (h2 k M k2 M2 rfl e4) La
  ·rcases getElem?_set' hm with⟨em,e,_⟩ | ⟨hne',hm'⟩
   ·subst em
    obtain⟨e1,e2⟩:=Prod.mk.inj e
    obtain⟨h1,h2⟩:=I.apart j m c' c x _ hjm hj' hi
    refine⟨by rw[e1];exact h1,fun k1 M1 k2 M2 e3 e4=>?_⟩
    rw[e2]at e4
    cases e4
    obtain⟨gm,_,h4⟩:=I.kid j c' x hj'
    have La:yF k1 w∧Dom k1 M1:=by
     cases x with
     | run _ _ _=>cases e3;exact⟨h4.2.2.2.uG,h4.2.2.2.dom⟩
     | acV _ _=>cases e3;obtain⟨_,_,_,_,_,_,_,L'⟩:=h4;exact⟨L'.uG,L'.dom⟩
     | quit _=>cases e3
    exact Rj (h2 k1 M1 k M e3 rfl) La.2 La.1
   ·exact I.apart j m c' c'' x x' hjm hj' hm'
 ·exact gu.chans _ _ (I.fresh c' hc') rfl
 ·obtain⟨j,x,hj⟩:=I.has c' l hl
  exact has_set hi hj
 ·rcases getElem?_set' hj with⟨_,e,_⟩ | ⟨_,hj'⟩
  ·cases e
   cases hx
   exact aFm (I.aFP i c _ k M hi rfl) I.base.size
  ·exact I.aFP j c' x k' M' hj' hx
end
end Go.aS

/- The machine: each kind of step keeps what holds of it. Conditions: none; over any program. -/
namespace Go.aS
open Go.Conc (crowd parked rcase scase QuitsIn Before Knows knows_own touchAt touchAt_of touchAt_old getElem?_append_old getElem?_append_cases lt_size_of_getElem? touch_of hb_po hb_app ofEvents_eq woken)
variable{P:Program}{gs:Array Goroutine}{w w':World}{t u:Trace}{k₀ vI:Hp}{aO vJ:Nat→Prop}{ks:List (Nat×KC)}
theorem MInv.aGp[Base]{es:Array Event}{fn:FuncId}{pos:String}(I:MInv P gs w t k₀ aO ks)(gu:dX k₀ aO w w' es){gs':Array Goroutine}(hs:gs'.size=gs.size)(hgo:∀m,0<m→gs'[m]? =gs[m]?):
  MInv P gs' w' (t++MemOp.ofEvents 0 fn pos es) (snap k₀ w w') (grown aO w w') ks:=by
 refine⟨by rw[hs,I.size],qZ I.uG gu,u_ I.uG I.dom gu.size,I.tok.step (by omega) I.uG gu (fun b hb hc=>I.own b hb (.inl hc)) I.rd,fun b hb hc=>aGn I.tok b hb fun hm=>I.own b hm ?_,aHD I.tok I.rd,fun i c x hi=>?_,I.apart,fun c hc=>?_,fun c l hl=>?_,I.base.guar gu I.low,aFm I.low I.base.size,I.aFP⟩
 ·cases h:isC (k₀ b)with
  | false=>exact .inl rfl
  | true=>
   rcases hc with hc | hc
   ·rw[OX b hc]at h;cases h
   ·have:snap k₀ w w' b=k₀ b:=by simp[snap,h]
    exact .inr (by rw[←this];exact hc)
 ·obtain⟨g,h1,h2⟩:=I.kid i c x hi
  exact⟨g,by rw[hgo (i+1) (by omega)];exact h1,h2.main I.uG gu⟩
 ·cases h:isC (k₀ c)with
  | true=>
   have e:snap k₀ w w' c=k₀ c:=by simp[snap,h]
   exact gu.chans _ _ (I.fresh c (by rw[←e];exact hc)) rfl
  | false=>
   simp only[snap,h,Bool.false_eq_true,if_false]at hc
   split at hc
   ·exact hc
   ·cases hc
 ·cases h:isC (k₀ c)with
  | true=>
   have e:snap k₀ w w' c=k₀ c:=by simp[snap,h]
   exact I.has c l (by rw[←e];exact hl)
  | false=>
   
   exfalso
   simp only[snap,h,Bool.false_eq_true,if_false]at hl
   split at hl
   ·by_cases hc:w.heap.size≤c
    ·exact awE (gu.news c _ hc hl rfl)
    ·obtain⟨o,ho⟩:=Option.isSome_iff_exists.1 (show(w.heap[c]?).isSome=true by simp;omega)
     cases hoc:o.isChan with
     | false=>have:=gu.stay c o _ ho hoc hl;cases this
     | true=>
      cases hk:k₀ c with
      | none=>rename_i hx;simp[hk,hc]at hx
      | some y=>have:=I.uG.isC ho hoc (by rw[hk];rfl);rw[this]at h;cases h
   ·cases hl

structure Bit(c:Nat)(w w':World)(t u:Trace)(k₀ vI:Hp)(n:Nat):Prop where
 size:w'.heap.size=w.heap.size
 off:∀b,b≠c→w'.heap[b]? =w.heap[b]?
 was:∃o,w.heap[c]? =some o∧o.isChan=true
 now:∃o,w'.heap[c]? =some o∧o.isChan=true
 known:∀b,b≠c→vI b=k₀ b
 kc:∃o,k₀ c=some o∧o.isChan=true
 kc':∃o,vI c=some o∧o.isChan=true∧o≠acF
 ops:∀op∈u,∀a,op.act.touch? =some a→a.write=false∧∀b,In a.loc b→b=c
 tok:Zj (t++u) n w'.heap.size

section
variable{c n:Nat}(B:Bit c w w' t u k₀ vI n)
include B
theorem Bit.uG{k:Hp}(h:yF k w):yF k w':=by
 intro b o ho
 obtain⟨o',h1,h2⟩:=h b o ho
 by_cases hb:b=c
 ·subst hb
  obtain⟨x,hx,hxc⟩:=B.now
  obtain⟨y,hy,hyc⟩:=B.was
  have:=h.isC hy hyc (by rw[ho];rfl)
  rw[ho]at this
  exact⟨x,hx,.inr ⟨this,hxc⟩⟩
 ·exact⟨o',by rw[B.off b hb];exact h1,h2⟩
theorem Bit.isC(b:Nat):aS.isC (vI b)=aS.isC (k₀ b)∧(vI b).isSome=(k₀ b).isSome:=by
 by_cases hb:b=c
 ·subst hb
  obtain⟨x,hx,hxc⟩:=B.kc
  obtain⟨y,hy,hyc,_⟩:=B.kc'
  simp[hx,hy,aS.isC,hxc,hyc]
 ·rw[B.known b hb];exact⟨rfl,rfl⟩
theorem Bit.aLN(h:yF k₀ w):yF vI w':=by
 intro b o ho
 by_cases hb:b=c
 ·subst hb
  obtain⟨x,hx,hxc⟩:=B.now
  obtain⟨y,hy,hyc,_⟩:=B.kc'
  rw[hy]at ho
  cases ho
  exact⟨x,hx,.inr ⟨hyc,hxc⟩⟩
 ·rw[B.known b hb]at ho
  exact B.uG h b o ho
theorem Bit.own{g b:Nat}(h:Own t g b)(hb:b≠c):Own (t++u) g b:=
 h.app fun op hop a ha hl=>absurd ((B.ops op hop a ha).2 b hl) hb
theorem Bit.rd{g b:Nat}(h:Rd t g b):Rd (t++u) g b:=
 h.app fun op hop a ha _ hw=>by rw[(B.ops op hop a ha).1]at hw;cases hw
theorem Bit.aI1{M:Nat→Prop}(h:Apart M k₀):Apart M vI:=fun b hb hs=>by
 obtain⟨e1,e2⟩:=B.isC b
 rw[e1];rw[e2]at hs
 exact h b hb hs
theorem Bit.ne{k:Hp}(h:yF k w){b:Nat}(hs:(k b).isSome=true)(hc:aS.isC (k b)=false):b≠c:=by
 rintro rfl
 obtain⟨y,hy,hyc⟩:=B.was
 rw[h.isC hy hyc hs]at hc;cases hc

theorem Bit.live{j c':Nat}{k:Hp}{M:Nat→Prop}(hne:c'≠c)(hM:Apart vJ k)(hm0:vJ c')(L:Live w t k₀ aO j c' k M):Live w' (t++u) vI vJ j c' k M:=by
 obtain⟨s,r,ho⟩:=L.opened
 obtain⟨l,h1,h2⟩:=L.ghost
 exact⟨B.uG L.uG,L.dom,fun b hb hc=>B.own (L.own b hb hc) (B.ne L.uG (L.dom b hb) hc),fun b hb hc=>B.rd (L.rd b hb hc),L.mc,⟨l,h1,by rw[B.known _ hne];exact h2⟩,hm0,⟨s,r,by rw[B.off _ hne];exact ho⟩,B.rd L.rdc,B.aI1 L.ap0,hM⟩

theorem Bit.kid{j c':Nat}{g:Goroutine}{x:KC}(hne:c'≠c)(hM:∀k M,x.act=some (k,M)→Apart vJ k)(hm0:(∃l,k₀ c'=some (gch l))→aO c'→vJ c')(hu:∀op∈u,op.g=j+1→op.act.touch? =none)(h:Kid P w t k₀ aO j c' g x):Kid P w' (t++u) vI vJ j c' g x:=by
 cases x with
 | run g' k M=>exact⟨h.1,h.2.1,h.2.2.1,B.live hne (hM k M rfl) (hm0 (let⟨l,_,e⟩:=h.2.2.2.ghost;⟨l,e⟩) h.2.2.2.m0) h.2.2.2⟩
 | acV k M=>
  obtain⟨g',v,l,z,h1,h2,h3,L⟩:=h
  exact⟨g',v,l,z,h1,h2,h3,B.live hne (hM k M rfl) (hm0 (let⟨l,_,e⟩:=L.ghost;⟨l,e⟩) L.m0) L⟩
 | quit m=>
  have others:∀m a,touchAt (t++u) m=some a→(t++u).g? m=some (j+1)→m<t.size∧touchAt t m=some a∧t.g? m=some (j+1):=by
   intro m a ha hg
   rcases fP ha with⟨hj,h1⟩ | ⟨op,ho,hm,h1⟩
   ·refine⟨hj,h1,?_⟩
    simpa[Trace.g?,getElem?_append_old hj]using hg
   ·simp[Trace.g?,ho]at hg
    rw[hu op hm hg]at h1;cases h1
  refine⟨h.1,?_⟩
  rcases h.2 with⟨h1,h2⟩ | ⟨h1,h2,⟨s,r,h3⟩,pc,h4,h5,h6⟩
  ·exact .inl ⟨by rw[B.known _ hne];exact h1,fun m a ha hg=>let⟨_,x,y⟩:=others m a ha hg;(h2 m a x y).app _⟩
  ·have hpc:pc<t.size:=by
    unfold Trace.act? at h4
    obtain⟨op,ho,_⟩:=Option.map_eq_some_iff.1 h4
    exact lt_size_of_getElem? ho
   exact .inr ⟨by rw[B.known _ hne];exact h1,hm0 ⟨[],h1⟩ h2,⟨s,r,by rw[B.off _ hne];exact h3⟩,pc,by simpa[Trace.act?,getElem?_append_old hpc]using h4,by simpa[Trace.g?,getElem?_append_old hpc]using h5,fun m a ha hg=>let⟨_,x,y⟩:=others m a ha hg;(h6 m a x y).app _⟩
end
theorem MInv.turn[Base]{i c:Nat}{x x':KC}(I:MInv P gs w t k₀ aO ks)(hi:ks[i]? =some (c,x))(B:Bit c w w' t u k₀ vI (ks.length+1)){gs':Array Goroutine}{g':Goroutine}(hs:gs'.size=gs.size)(hgi:gs'[i+1]? =some g')(hgo:∀m,m≠i+1→0<m→gs'[m]? =gs[m]?)
  (hu:∀op∈u,op.act.touch? ≠none→op.g=i+1) (hk:Kid P w' (t++u) vI aO i c g' x')
  (ha:∀k' M',x'.act=some (k',M')→∃k M,x.act=some (k,M)∧M'=M∧∀b,isC (k' b)=isC (k b)∧(k' b).isSome=(k b).isSome) (hkp:Kept Base.ref w'):MInv P gs' w' (t++u) vI aO (ks.set i (c,x')):=by
 refine⟨by rw[hs,I.size,List.length_set],B.aLN I.uG,fun b hb=>by rw[(B.isC b).2];exact I.dom b hb,by rw[List.length_set];exact B.tok,fun b hb hc=>?_,fun b hb hc=>?_,fun j c' x'' hj=>?_,fun j m c' c'' y y' hjm hj hm=>?_,fun c' hc'=>?_,fun c' l hl=>?_,hkp,I.low,fun j c' y k' M' hj hy=>?_⟩
 ·by_cases hbc:b=c
  ·subst hbc
   obtain⟨o,ho,hoc,hon⟩:=B.kc'
   rcases hc with hc | hc
   ·rw[ho]at hc;simp[isC,hoc]at hc
   ·rw[ho]at hc;cases hc;exact absurd rfl hon
  ·refine B.own (I.own b hb ?_) hbc
   rw[B.known b hbc]at hc;exact hc
 ·rw[(B.isC b).2]at hb;rw[(B.isC b).1]at hc
  exact B.rd (I.rd b hb hc)
 ·rcases getElem?_set' hj with⟨ej,e,_⟩ | ⟨hne,hj'⟩
  ·subst ej
   obtain⟨rfl,rfl⟩:=Prod.mk.inj e
   exact⟨g',hgi,hk⟩
  ·obtain⟨g,h1,h2⟩:=I.kid j c' x'' hj'
   refine⟨g,by rw[hgo (j+1) (by omega) (by omega)];exact h1,B.kid (I.apart j i c' c x'' x hne hj' hi).1 (fun k M e=>?_) (fun _ h=>h) (fun op hop hg=>?_) h2⟩
   ·cases x'' with
    | run _ _ _=>cases e;exact h2.2.2.2.ap1
    | acV _ _=>cases e;obtain⟨_,_,_,_,_,_,_,L⟩:=h2;exact L.ap1
    | quit _=>cases e
   ·cases ht:op.act.touch? with
    | none=>rfl
    | some a=>have:=hu op hop (by rw[ht];simp);omega
 ·rcases getElem?_set' hj with⟨ej,e,_⟩ | ⟨hne,hj'⟩
  ·rcases getElem?_set' hm with⟨em,_,_⟩ | ⟨hne',hm'⟩
   ·exact absurd (ej.trans em.symm) hjm
   ·subst ej
    obtain⟨e1,e2⟩:=Prod.mk.inj e
    obtain⟨h1,h2⟩:=I.apart j m c c'' x y' hjm hi hm'
    refine⟨by rw[e1];exact h1,fun k1 M1 k2 M2 e3 e4=>?_⟩
    rw[e2]at e3
    obtain⟨k,M,e5,rfl,_⟩:=ha k1 M1 e3
    exact h2 k _ k2 M2 e5 e4
  ·rcases getElem?_set' hm with⟨em,e,_⟩ | ⟨hne',hm'⟩
   ·subst em
    obtain⟨e1,e2⟩:=Prod.mk.inj e
    obtain⟨h1,h2⟩:=I.apart j m c' c y x hjm hj' hi
    refine⟨by rw[e1];exact h1,fun k1 M1 k2 M2 e3 e4=>?_⟩
    rw[e2]at e4
    obtain⟨k,M,e5,rfl,e6⟩:=ha k2 M2 e4
    intro b hb hsb
    rw[(e6 b).1];rw[(e6 b).2]at hsb
    exact h2 k1 M1 k _ e3 e5 b hb hsb
   ·exact I.apart j m c' c'' y y' hjm hj' hm'
 ·have hcc:c'≠c:=by
   rintro rfl
   obtain⟨o,ho,_,hon⟩:=B.kc'
   rw[ho]at hc';cases hc';exact hon rfl
  rw[B.off _ hcc]
  rw[B.known _ hcc]at hc'
  exact I.fresh c' hc'
 ·by_cases hcc:c'=c
  ·subst hcc;exact has_set hi hi
  ·rw[B.known _ hcc]at hl
   obtain⟨j,y,hj⟩:=I.has c' l hl
   exact has_set hi hj
 ·rcases getElem?_set' hj with⟨_,e,_⟩ | ⟨_,hj'⟩
  ·obtain⟨e1,e2⟩:=Prod.mk.inj e
   rw[e2]at hy
   obtain⟨k,M,e5,rfl,_⟩:=ha k' M' hy
   exact I.aFP i c x k _ hi e5
  ·exact I.aFP j c' y k' M' hj' hy

theorem Zj.still{n n' size:Nat}(h:Zj t n size)(hn:n≤n')(hu:∀op∈u,op.act.touch? =none∧(∀m,op.act≠ .mark m)∧op.g<n'):Zj (t++u) n' size:=by
 refine⟨fun op hop m hm=>?_,fun said=>?_,fun i a b ha hb=>?_,fun op hop=>?_⟩
 ·rcases Array.mem_append.1 hop with h1 | h1
  ·exact h.quiet op h1 m hm
  ·exact absurd hm ((hu op h1).2.1 m)
 ·rintro⟨i,j,hij,⟨a,b,ha,hb,hc⟩,n1,n2⟩
  have old:∀{i a},touchAt (t++u) i=some a→i<t.size∧touchAt t i=some a:=by
   intro i a ha
   rcases fP ha with h1 | ⟨op,_,hm,h1⟩
   ·exact h1
   ·rw[(hu op hm).1]at h1;cases h1
  exact h.clean said ⟨i,j,hij,⟨a,b,(old ha).2,(old hb).2,hc⟩,fun e=>n1 (hb_app u e),fun e=>n2 (hb_app u e)⟩
 ·rcases fP ha with⟨_,h1⟩ | ⟨op,_,hm,h1⟩
  ·exact h.below i a b h1 hb
  ·rw[(hu op hm).1]at h1;cases h1
 ·rcases Array.mem_append.1 hop with h1 | h1
  ·exact Nat.lt_of_lt_of_le (h.who op h1) hn
  ·exact(hu op h1).2.2
end Go.aS

/- The machine's moves, one by one. Conditions: none; over any program. -/
namespace Go.aS
open Go.Conc (crowd parked rcase scase QuitsIn Before Knows knows_own touchAt touchAt_of touchAt_old getElem?_append_old getElem?_append_cases lt_size_of_getElem? touch_of hb_po hb_app ofEvents_eq woken)
variable{P:Program}{gs:Array Goroutine}{w w':World}{t u:Trace}{k₀ vI:Hp}{aO vJ:Nat→Prop}{ks:List (Nat×KC)}
theorem g?_old{i:Nat}(h:i<t.size):(t++u).g? i=t.g? i:=by simp only[Trace.g?,getElem?_append_old h]
theorem act?_old{i:Nat}(h:i<t.size):(t++u).act? i=t.act? i:=by simp only[Trace.act?,getElem?_append_old h]
theorem aC8(t:Trace):t++(#[]:Trace)=t:=by simp

theorem Bit.none{c n:Nat}{o:Obj}(ha:yF k₀ w)(ho:k₀ c=some o)(hc:o.isChan=true)(hn:o≠acF)(hT:Zj t n w.heap.size):Bit c w w t #[] k₀ k₀ n:=by
 obtain⟨o',h1,h2⟩:=ha c o ho
 have h3:o'.isChan=true:=by
  rcases h2 with h2 | h2
  ·rw[h2];exact hc
  ·exact h2.2
 exact⟨rfl,fun _ _=>rfl,⟨o',h1,h3⟩,⟨o',h1,h3⟩,fun _ _=>rfl,⟨o,ho,hc⟩,⟨o,ho,hc,hn⟩,fun op h=>by simp at h,by rw[aC8];exact hT⟩

theorem Live.nil{i c:Nat}{k:Hp}{M:Nat→Prop}(L:Live w t k₀ aO i c k M):Live w (t++(#[]:Trace)) k₀ aO i c k M:=by rw[aC8];exact L

theorem MInv.acV[Base]{i c:Nat}{g g':Goroutine}{k:Hp}{M:Nat→Prop}{v z:Value}{l:List Value}(I:MInv P gs w t k₀ aO ks)(hi:ks[i]? =some (c,.run g k M))(L:Live w t k₀ aO i c k M)(hk:k c=some (gch (v::l)))
  (h:Ch P c (g'.finishComm P #[scase c v z] .send 0 undef false) (hset k c (gch l)) M) {gs':Array Goroutine} (hs:gs'.size=gs.size) (hgi:gs'[i+1]? =some (parked g' #[scase c v z] .send)) (hgo:∀m,m≠i+1→0<m→gs'[m]? =gs[m]?):
  MInv P gs' w t k₀ aO (ks.set i (c,.acV k M)):=by
 obtain⟨l',_,h2⟩:=L.ghost
 have:=I.turn (x':=.acV k M) hi (Bit.none I.uG h2 rfl awE I.tok) hs hgi hgo (fun op h=>by simp at h) ⟨g',v,l,z,rfl,hk,h,L.nil⟩ (fun k' M' e=>by cases e;exact⟨k,M,rfl,rfl,fun _=>⟨rfl,rfl⟩⟩) I.base
 rwa[aC8]at this

theorem MInv.quits[Base]{i c n n':Nat}{g g':Goroutine}(I:MInv P gs w t k₀ aO ks)(hi:ks[i]? =some (c,.quit n))(hg:gs[i+1]? =some g)(hq:QuitsIn P n' g'){gs':Array Goroutine}(hs:gs'.size=gs.size)(hgi:gs'[i+1]? =some g')(hgo:∀m,m≠i+1→0<m→gs'[m]? =gs[m]?):
  MInv P gs' w t k₀ aO (ks.set i (c,.quit n')):=by
 obtain⟨g₁,h1,h2,h3⟩:=I.kid i c _ hi
 have hB:∃o,k₀ c=some o∧o.isChan=true∧o≠acF:=by
  rcases h3 with⟨h,_⟩ | ⟨h,_⟩
  ·exact⟨_,h,rfl,aAV⟩
  ·exact⟨_,h,rfl,awE⟩
 obtain⟨o,ho,hc,hn⟩:=hB
 have:=I.turn (x':=.quit n') hi (Bit.none I.uG ho hc hn I.tok) hs hgi hgo (fun op h=>by simp at h) ⟨hq,by rw[aC8];exact h3⟩ (fun k' M' e=>by cases e) I.base
 rwa[aC8]at this

theorem Live.pass{i c:Nat}{k:Hp}{M:Nat→Prop}{l:List Value}(B:Bit c w w' t u k₀ (hset k₀ c (gch l)) (ks.length+1))(L:Live w t k₀ aO i c k M)(ho:∃s r,w'.heap[c]? =some (.chan 0 #[] false s r false)):Live w' (t++u) (hset k₀ c (gch l)) aO i c (hset k c (gch l)) M:=by
 obtain⟨l₀,h1,h2⟩:=L.ghost
 have e:∀b,isC (hset k c (gch l) b)=isC (k b)∧(hset k c (gch l) b).isSome=(k b).isSome:=fun b=>WU h1 rfl rfl
 refine⟨fun b o hb=>?_,fun b hb=>by rw[(e b).2];exact L.dom b hb,fun b hb hc=>?_,fun b hb hc=>?_,L.mc,⟨l,bH _ _ _,bH _ _ _⟩,L.m0,ho,B.rd L.rdc,B.aI1 L.ap0,fun b hb hs=>?_⟩
 ·by_cases hbc:b=c
  ·subst hbc
   rw[bH]at hb
   cases hb
   obtain⟨s,r,ho⟩:=ho
   exact⟨_,ho,.inr ⟨rfl,rfl⟩⟩
  ·rw[bY _ _ hbc]at hb
   exact B.uG L.uG b o hb
 ·rw[(e b).1]at hc
  exact B.own (L.own b hb hc) (B.ne L.uG (L.dom b hb) hc)
 ·rw[(e b).2]at hb;rw[(e b).1]at hc
  exact B.rd (L.rd b hb hc)
 ·rw[(e b).1];rw[(e b).2]at hs
  exact L.ap1 b hb hs

theorem MInv.meet[Base]{i c s r:Nat}{x:KC}{g':Goroutine}{k:Hp}{M:Nat→Prop}{v:Value}{l:List Value}(I:MInv P gs w t k₀ aO ks)(hi:ks[i]? =some (c,x))(hx:x.act=some (k,M))(L:Live w t k₀ aO i c k M)(hk:k c=some (gch (v::l)))
  (hg':g'.status= .running) (h:Ch P c g' (hset k c (gch l)) M) (hsz:w'.heap.size=w.heap.size) (hoff:∀b,b≠c→w'.heap[b]? =w.heap[b]?) (hc:w'.heap[c]? =some (.chan 0 #[] false s r false))
  (hu:∀op∈u,op.act.touch? =none∧(∀m,op.act≠ .mark m)∧op.g<ks.length+1) (h1':w'.os=w.os) (h2':w'.output=w.output) (h3':w'.tape=w.tape)
  {gs':Array Goroutine} (hs:gs'.size=gs.size) (hgi:gs'[i+1]? =some g') (hgo:∀m,m≠i+1→0<m→gs'[m]? =gs[m]?):
  MInv P gs' w' (t++u) (hset k₀ c (gch l)) aO (ks.set i (c,.run g' (hset k c (gch l)) M)):=by
 obtain⟨l₀,h1,h2⟩:=L.ghost
 obtain⟨s₀,r₀,ho⟩:=L.opened
 have B:Bit c w w' t u k₀ (hset k₀ c (gch l)) (ks.length+1):=
  ⟨hsz,hoff,⟨_,ho,rfl⟩,⟨_,hc,rfl⟩,fun b hb=>bY _ _ hb,⟨_,h2,rfl⟩,⟨_,bH _ _ _,rfl,awE⟩,fun op hop a ha=>(by rw[(hu op hop).1]at ha;cases ha),by rw[hsz];exact I.tok.still (Nat.le_refl _) hu⟩
 exact I.turn hi B hs hgi hgo (fun op hop ht=>absurd (hu op hop).1 ht) ⟨rfl,hg',h,L.pass B ⟨s,r,hc⟩⟩ (fun k' M' e=>by cases e;exact⟨k,M,hx,rfl,fun b=>WU h1 rfl rfl⟩) (I.base.off h1' h2' h3' hsz hoff (I.low c L.m0))

theorem MInv.done[Base]{i c n:Nat}{g:Goroutine}(I:MInv P gs w t k₀ aO ks)(hi:ks[i]? =some (c,.quit n))(hg:k₀ c=some (gch [])){op:MemOp}(h0:op.g=0)(ho:op.act= .recvClosed c){gs':Array Goroutine}(hs:gs'.size=gs.size)(hgo:∀m,0<m→gs'[m]? =gs[m]?):
  MInv P gs' w (t++ #[op]) (hset k₀ c aBw) aO ks:=by
 obtain⟨g₁,h1,h2,h3⟩:=I.kid i c _ hi
 rcases h3 with⟨h3,_⟩ | ⟨h3,h4,⟨s,r,h5⟩,pc,h6,h7,h8⟩
 ·rw[hg]at h3;exact absurd (Option.some.inj h3) aBx
 have hu:∀op'∈ #[op],op'.act.touch? =none∧(∀m,op'.act≠ .mark m)∧op'.g<ks.length+1:=by
  intro op' hop
  obtain rfl:op'=op:=by simpa using hop
  rw[ho,h0]
  exact⟨rfl,by simp,by omega⟩
 have hT:Zj (t++ #[op]) (ks.length+1) w.heap.size:=I.tok.still (Nat.le_refl _) hu
 have B:Bit c w w t #[op] k₀ (hset k₀ c aBw) (ks.length+1):=
  ⟨rfl,fun _ _=>rfl,⟨_,h5,rfl⟩,⟨_,h5,rfl⟩,fun b hb=>bY _ _ hb,⟨_,hg,rfl⟩,⟨_,bH _ _ _,rfl,aAV⟩,fun op' hop a ha=>(by rw[(hu op' hop).1]at ha;cases ha),hT⟩
 have hpc:pc<t.size:=by
  unfold Trace.act? at h6
  obtain⟨op,ho,_⟩:=Option.map_eq_some_iff.1 h6
  exact lt_size_of_getElem? ho
 have hlast:(t++ #[op])[t.size]? =some op:=by rw[Array.getElem?_append_right (Nat.le_refl _)];simp
 have e6:(t++ #[op]).act? pc=some (.close c):=by rw[act?_old hpc];exact h6
 
 have aLO:HappensBefore (t++ #[op]) pc t.size:=by
  obtain⟨op₁,aaP,_⟩:=Option.map_eq_some_iff.1 (show((t++ #[op])[pc]?).map (·.act)=some (.close c)from e6)
  refine .single (.inr ⟨.closed (c:=c) e6 (by simp[Trace.act?,hlast,ho]),hT.heard aaP,hT.heard hlast⟩)
 have knows:∀j a,touchAt (t++ #[op]) j=some a→(t++ #[op]).g? j=some (i+1)→Knows (t++ #[op]) 0 j:=by
  intro j a ha hgj
  rcases fP ha with⟨hj,e1⟩ | ⟨op',_,hm,e1⟩
  ·have:t.g? j=some (i+1):=by rw[g?_old hj]at hgj;exact hgj
   exact⟨t.size,op,hlast,h0,.inr (((h8 j a e1 this).app _).hb aLO)⟩
  ·rw[(hu op' hm).1]at e1;cases e1
 have:=I.turn (x':=.quit n) hi B hs (g':=g₁) (by rw[hgo (i+1) (by omega)];exact h1) (fun m _ hm=>hgo m hm) (fun op' hop ht=>absurd (hu op' hop).1 ht) ⟨h2,.inl ⟨bH _ _ _,knows⟩⟩ (fun k' M' e=>by cases e) I.base
 have e:ks.set i (c,.quit n)=ks:=by
  apply List.ext_getElem?
  intro j
  rw[List.getElem?_set]
  split
  ·rename_i e;subst e
   rw[if_pos (ayx hi),hi]
  ·rfl
 rwa[e]at this
end Go.aS

/- The machine's moves: closing, starting. Conditions: none; over any program. -/
namespace Go.aS
open Go.Conc (crowd parked rcase scase QuitsIn Before Knows knows_own touchAt touchAt_of touchAt_old getElem?_append_old getElem?_append_cases lt_size_of_getElem? touch_of hb_po hb_app ofEvents_eq woken noRace_append)
variable{P:Program}{gs:Array Goroutine}{w w':World}{t u:Trace}{k₀ vI:Hp}{aO vJ:Nat→Prop}{ks:List (Nat×KC)}
theorem closeOps(j c:Nat)(fn:FuncId)(pos:String):MemOp.ofEvents j fn pos (avn c)= #[{g:=j,fn,pos,act:=.access ⟨.obj c,false,true⟩},{g:=j,fn,pos,act:=.close c}]:=by
 rw[ofEvents_eq];simp[avn,MemAct.ofEvent]

theorem MInv.close[Base]{i c n s r:Nat}{g g':Goroutine}{k:Hp}{M:Nat→Prop}{fn:FuncId}{pos:String}(I:MInv P gs w t k₀ aO ks)(hi:ks[i]? =some (c,.run g k M))(L:Live w t k₀ aO i c k M)(hk:k c=some (gch []))(hq:QuitsIn P n g')
  (ho:w.heap[c]? =some (.chan 0 #[] false s r false)) {gs':Array Goroutine} (hs:gs'.size=gs.size) (hgi:gs'[i+1]? =some g') (hgo:∀m,m≠i+1→0<m→gs'[m]? =gs[m]?):
  MInv P gs' (w.shut c s r false) (t++MemOp.ofEvents (i+1) fn pos (avn c)) k₀ aO (ks.set i (c,.quit n)):=by
 have hlt:=m_ ho
 have hil:=ayx hi
 obtain⟨l₀,h1,h2⟩:=L.ghost
 rw[hk]at h1
 obtain rfl:=azS h1
 rw[closeOps]
 let o1:MemOp:={g:=i+1,fn,pos,act:=.access ⟨.obj c,false,true⟩}
 let o2:MemOp:={g:=i+1,fn,pos,act:=.close c}
 show MInv P gs' (w.shut c s r false) (t++ #[o1,o2]) k₀ aO (ks.set i (c,.quit n))
 have mem:∀op∈ #[o1,o2],op=o1∨op=o2:=fun op h=>by simpa using h
 have hg1:∀op∈ #[o1,o2],op.g=i+1:=fun op h=>by rcases mem op h with rfl | rfl <;>rfl
 have hw':(w.shut c s r false).heap[c]? =some (.chan 0 #[] true s r false):=by simp[World.shut,hlt]
 have ht1:∀op∈ #[o1,o2],∀a,op.act.touch? =some a→a.write=false∧In a.loc c∧∀b,In a.loc b→b=c:=by
  intro op h a ha
  rcases mem op h with rfl | rfl
  ·simp only[o1,MemAct.touch?,Option.some.injEq]at ha
   subst ha
   exact⟨rfl,rfl,fun b e=>e.symm⟩
  ·cases ha
 have hT:Zj (t++ #[o1,o2]) (ks.length+1) (w.shut c s r false).heap.size:=by
  have e:(w.shut c s r false).heap.size=w.heap.size:=by simp[World.shut]
  rw[e]
  refine⟨fun op hop m hm=>?_,fun said=>?_,fun j a b ha hb=>?_,fun op hop=>?_⟩
  ·rcases Array.mem_append.1 hop with h | h
   ·exact I.tok.quiet op h m hm
   ·rcases mem op h with rfl | rfl <;>cases hm
  ·refine noRace_append (I.tok.clean said) hg1 fun j a ha op hop b hb hc=>?_
   obtain⟨e1,e2,_⟩:=ht1 op hop b hb
   have haw:a.write=true:=by
    rcases hc.2.2.1 with h | h
    ·exact h
    ·rw[e1]at h;cases h
   exact L.rdc j a ha (by rw[hc.1];exact e2) haw
  ·rcases fP ha with⟨_,h⟩ | ⟨op,_,hm,h⟩
   ·exact I.tok.below j a b h hb
   ·rw[(ht1 op hm a h).2.2 b hb];exact hlt
  ·rcases Array.mem_append.1 hop with h | h
   ·exact I.tok.who op h
   ·rw[hg1 op h];omega
 have B:Bit c w (w.shut c s r false) t #[o1,o2] k₀ k₀ (ks.length+1):=
  ⟨by simp[World.shut],fun b hb=>by simp[World.shut,Ne.symm hb],⟨_,ho,rfl⟩,⟨_,hw',rfl⟩,fun _ _=>rfl,⟨_,h2,rfl⟩,⟨_,h2,rfl,awE⟩,fun op hop a ha=>⟨(ht1 op hop a ha).1,(ht1 op hop a ha).2.2⟩,hT⟩
 have e2:(t++ #[o1,o2])[t.size+1]? =some o2:=by rw[Array.getElem?_append_right (by omega)];simp
 refine I.turn hi B hs hgi hgo (fun op hop _=>hg1 op hop) ⟨hq,.inr ⟨h2,L.m0,⟨s,r,hw'⟩,t.size+1,by simp only[Trace.act?,e2];rfl,by simp only[Trace.g?,e2];rfl,fun j a ha hgj=>?_⟩⟩ (fun k' M' e=>by cases e) (I.base.off rfl rfl rfl (by simp[World.shut]) (fun b hb=>by simp[World.shut,Ne.symm hb]) (I.low c L.m0))
 obtain⟨op,hop,aeH⟩:=Option.map_eq_some_iff.1 hgj
 have hj:j<t.size+1:=by
  have h1:=lt_size_of_getElem? hop
  have h2:j≠t.size+1:=by
   rintro rfl
   rw[touchAt_of e2]at ha;cases ha
  simp at h1
  omega
 exact .inr (hb_po hj hop e2 aeH)

theorem MInv.spawn[Base]{c:Nat}{l:List Value}{kc:Hp}{g' child:Goroutine}{fn fn':FuncId}{pos pos':String}(I:MInv P gs w t k₀ aO ks)(hk:k₀ c=some acF)(hM:aO c)(hkc:kc c=some (gch l))(hsub:∀b o,b≠c→kc b=some o→k₀ b=some o∧o.isChan=false)
  (hsc:child.status= .running) (hc:Ch P c child kc (· =c)) (hM':Less k₀ vJ aO) (aH5:vJ c) (hsep:∀b,b≠c→(kc b).isSome=true→¬vJ b)
  {gs':Array Goroutine} (hs:gs'.size=gs.size+1) (hgi:gs'[gs.size]? =some child) (hgo:∀m,m<gs.size→0<m→gs'[m]? =gs[m]?):
  MInv P gs' w (t++ #[{g:=0,fn,pos,act:=.go gs.size},{g:=gs.size,fn:=fn',pos:=pos',act:=.start}]) (hset k₀ c (gch l)) vJ (ks++[(c,.run child kc (· =c))]):=by
 let o1:MemOp:={g:=0,fn,pos,act:=.go gs.size}
 let o2:MemOp:={g:=gs.size,fn:=fn',pos:=pos',act:=.start}
 show MInv P gs' w (t++ #[o1,o2]) (hset k₀ c (gch l)) vJ (ks++[(c,.run child kc (· =c))])
 have hfr:=I.fresh c hk
 have hsz:=I.size
 have mem:∀op∈ #[o1,o2],op=o1∨op=o2:=fun op h=>by simpa using h
 have hu:∀op∈ #[o1,o2],op.act.touch? =none∧(∀m,op.act≠ .mark m)∧op.g<ks.length+1+1:=by
  intro op h
  rcases mem op h with rfl | rfl
  ·exact⟨rfl,by simp[o1],by simp[o1]⟩
  ·exact⟨rfl,by simp[o2],by simp[o2,hsz]⟩
 have hT:Zj (t++ #[o1,o2]) (ks.length+1+1) w.heap.size:=I.tok.still (by omega) hu
 have B:Bit c w w t #[o1,o2] k₀ (hset k₀ c (gch l)) (ks.length+1+1):=
  ⟨rfl,fun _ _=>rfl,⟨_,hfr,rfl⟩,⟨_,hfr,rfl⟩,fun b hb=>bY _ _ hb,⟨_,hk,rfl⟩,⟨_,bH _ _ _,rfl,awE⟩,fun op hop a ha=>(by rw[(hu op hop).1]at ha;cases ha),hT⟩
 have e1:(t++ #[o1,o2])[t.size]? =some o1:=by rw[Array.getElem?_append_right (by omega)];simp
 have e2:(t++ #[o1,o2])[t.size+1]? =some o2:=by rw[Array.getElem?_append_right (by omega)];simp
 have edge:HappensBefore (t++ #[o1,o2]) t.size (t.size+1):=
  .single (.inr ⟨.spawn (child:=gs.size) (by simp only[Trace.act?,e1];rfl) (by simp only[Trace.act?,e2];rfl) (by simp only[Trace.g?,e2];rfl),hT.heard e1,hT.heard e2⟩)
 have tells:∀{j},Knows t 0 j→Knows (t++ #[o1,o2]) gs.size j:=by
  rintro j ⟨q,z,h1,h2,h3⟩
  have hq:=lt_size_of_getElem? h1
  have h4:HappensBefore (t++ #[o1,o2]) q t.size:=hb_po hq (by rw[getElem?_append_old hq];exact h1) e1 h2
  exact⟨t.size+1,o2,e2,rfl,.inr ((h3.app _).hb (h4.trans edge))⟩
 have old:∀{j a},touchAt (t++ #[o1,o2]) j=some a→touchAt t j=some a:=by
  intro j a ha
  rcases fP ha with⟨_,h⟩ | ⟨op,_,hm,h⟩
  ·exact h
  ·rw[(hu op hm).1]at h;cases h
 have hnew:∀{i c':Nat} {x:KC},ks[i]? =some (c',x)→c'≠c:=by
  rintro i c' x hi rfl
  obtain⟨g,_,h2⟩:=I.kid i c' x hi
  cases x with
  | run _ _ _=>obtain⟨l,_,e⟩:=h2.2.2.2.ghost;rw[hk]at e;exact awE (Option.some.inj e).symm
  | acV _ _=>obtain⟨_,_,_,_,_,_,_,L⟩:=h2;obtain⟨l,_,e⟩:=L.ghost;rw[hk]at e;exact awE (Option.some.inj e).symm
  | quit _=>
   rcases h2.2 with⟨e,_⟩ | ⟨e,_⟩
   ·rw[hk]at e;exact aAV (Option.some.inj e).symm
   ·rw[hk]at e;exact awE (Option.some.inj e).symm
 have apM:∀{k:Hp},Apart aO k→Apart vJ k:=fun h b hb=>h b (hM'.1 b hb)
 have aJU:∀{j:Nat} {p:Nat×KC},(ks++[(c,.run child kc (· =c))])[j]? =some p→(ks[j]? =some p)∨(j=ks.length∧p=(c,.run child kc (· =c))):=by
  intro j p h
  rcases Nat.lt_or_ge j ks.length with hj | hj
  ·rw[List.getElem?_append_left hj]at h;exact .inl h
  ·rw[List.getElem?_append_right hj]at h
   have:j-ks.length=0:=by
    rcases Nat.eq_zero_or_pos (j-ks.length)with h' | h'
    ·exact h'
    ·rw[List.getElem?_eq_none (by simp;omega)]at h;cases h
   rw[this]at h
   simp only[List.getElem?_cons_zero,Option.some.injEq]at h
   exact .inr ⟨by omega,h.symm⟩
 have aMP:yF kc w:=by
  intro b o hb
  by_cases hbc:b=c
  ·subst hbc
   rw[hkc]at hb;cases hb
   exact⟨_,hfr,.inr ⟨rfl,rfl⟩⟩
  ·exact I.uG b o (hsub b o hbc hb).1
 have aHf:∀{i c':Nat} {x:KC} {g:Goroutine} {k:Hp} {M:Nat→Prop},Kid P w t k₀ aO i c' g x→x.act=some (k,M)→Live w t k₀ aO i c' k M:=by
  intro i c' x g k M h e
  cases x with
  | run _ _ _=>cases e;exact h.2.2.2
  | acV _ _=>cases e;obtain⟨_,_,_,_,_,_,_,L⟩:=h;exact L
  | quit _=>cases e
 refine⟨by rw[hs,hsz,List.length_append];rfl,B.aLN I.uG,fun b hb=>by rw[(B.isC b).2];exact I.dom b (hM'.1 b hb),by rw[List.length_append];exact hT,fun b hb hcb=>?_,fun b hb hcb=>?_,fun i c' x hi=>?_,fun i j c' c'' x x' hij hi hj=>?_,fun c' hc'=>?_,fun c' l' hl=>?_,I.base,fun b hb=>I.low b (hM'.1 b hb),fun i c' x k M hi hx=>?_⟩
 ·have hbc:b≠c:=by
   rintro rfl
   rw[bH]at hcb
   rcases hcb with h | h
   ·cases h
   ·exact awE (Option.some.inj h)
  rw[bY _ _ hbc]at hcb
  exact B.own (I.own b (hM'.1 b hb) hcb) hbc
 ·rw[(B.isC b).2]at hb;rw[(B.isC b).1]at hcb
  exact B.rd (I.rd b hb hcb)
 ·rcases aJU hi with hi | ⟨rfl,hx⟩
  ·obtain⟨g,h1,h2⟩:=I.kid i c' x hi
   have hil:=ayx hi
   refine⟨g,by rw[hgo (i+1) (by omega) (by omega)];exact h1,B.kid (hnew hi) (fun k M e=>apM (aHf h2 e).ap1) (fun⟨l,hl⟩ hm=>?_) (fun op hop _=>(hu op hop).1) h2⟩
   rcases Classical.em (vJ c')with h | h
   ·exact h
   ·have:=hM'.2 c' _ hm h hl
    cases this
  ·obtain⟨rfl,rfl⟩:=Prod.mk.inj hx
   refine⟨child,by rw[←hsz];exact hgi,rfl,hsc,hc,?_⟩
   refine⟨aMP,fun b hb=>?_,fun b hb hcb=>?_,fun b hb hcb=>?_,rfl,⟨l,hkc,bH _ _ _⟩,aH5,⟨0,0,hfr⟩,?_,fun b hb hs=>?_,fun b hb hs=>?_⟩
   ·rw[hb,hkc];rfl
   ·rw[hb,hkc]at hcb;cases hcb
   ·have hbc:b≠c':=by rintro rfl;rw[hkc]at hcb;cases hcb
    obtain⟨o,ho⟩:=Option.isSome_iff_exists.1 hb
    obtain⟨h1,h2⟩:=hsub b o hbc ho
    intro j a ha hl hw
    rw[←hsz]
    exact tells (I.rd b (by rw[h1];rfl) (by rw[h1];exact h2) j a (old ha) hl hw)
   ·intro j a ha hl hw
    rw[←hsz]
    exact tells (I.own c' hM (.inr hk) j a (old ha) hl)
   ·rw[hb,bH];rfl
   ·have hbc:b=c':=by
     rcases Classical.em (b=c')with h | h
     ·exact h
     ·exact absurd hb (hsep b h hs)
    rw[hbc,hkc];rfl
 ·rcases aJU hi with hi1 | ⟨rfl,hx⟩ <;>rcases aJU hj with hj1 | ⟨rfl,hx'⟩
  ·exact I.apart i j c' c'' x x' hij hi1 hj1
  ·obtain⟨rfl,rfl⟩:=Prod.mk.inj hx'
   refine⟨hnew hi1,fun k M k' M' e e'=>?_⟩
   cases e'
   obtain⟨g,_,h2⟩:=I.kid i c' x hi1
   have L:=aHf h2 e
   intro b hb hs
   by_cases hbc:b=c''
   ·rw[hbc,hkc];rfl
   ·obtain⟨o,ho⟩:=Option.isSome_iff_exists.1 hs
    obtain⟨h1,h2⟩:=hsub b o hbc ho
    have:=L.ap0 b hb (by rw[h1];rfl)
    rw[h1]at this
    rw[show isC (some o)=o.isChan from rfl,h2]at this
    cases this
  ·obtain⟨rfl,rfl⟩:=Prod.mk.inj hx
   refine⟨fun e=>hnew hj1 e.symm,fun k M k' M' e e'=>?_⟩
   cases e
   obtain⟨g,_,h2⟩:=I.kid j c'' x' hj1
   have L:=aHf h2 e'
   intro b hb hs
   rw[hb]at hs⊢
   exact L.uG.isC hfr rfl hs
  ·exact absurd rfl hij
 ·have hcc:c'≠c:=by
   rintro rfl
   rw[bH]at hc';exact awE (Option.some.inj hc')
  rw[bY _ _ hcc]at hc'
  exact I.fresh c' hc'
 ·by_cases hcc:c'=c
  ·subst hcc
   exact⟨ks.length,_,by rw[List.getElem?_append_right (Nat.le_refl _)];simp;rfl⟩
  ·rw[bY _ _ hcc]at hl
   obtain⟨j,y,hj⟩:=I.has c' l' hl
   exact⟨j,y,by rw[List.getElem?_append_left (ayx hj)];exact hj⟩
 ·rcases aJU hi with hi1 | ⟨_,e⟩
  ·exact I.aFP i c' x k M hi1 hx
  ·obtain⟨rfl,rfl⟩:=Prod.mk.inj e
   cases hx
   intro b hb
   subst hb
   exact I.low b hM
end Go.aS

/- The machine runs to its end. Conditions: none; over any program. -/
namespace Go.aS
open Go.Conc (crowd parked rcase scase QuitsIn Before Knows knows_own touchAt touchAt_of touchAt_old getElem?_append_old getElem?_append_cases lt_size_of_getElem? touch_of hb_po hb_app ofEvents_eq woken)
def Ends(P:Program)(Q:Machine→Outcome→World→Trace→Prop)(m:Machine)(t:Trace):Prop:=
 ∃n last o w t',runNT P (n+1) m t=(.ended o w,t')∧runN P n m= .next last∧step P last= .ended o w∧Q last o w t'

section
variable{P:Program}{Q:Machine→Outcome→World→Trace→Prop}
theorem Ends.step{m m':Machine}{t:Trace}{ops:Array MemOp}(hs:stepT P m=(.next m',ops))(h:Ends P Q m' (t++ops)):Ends P Q m t:=by
 obtain⟨n,last,o,w,t',h1,h2,h3,h4⟩:=h
 exact⟨n+1,last,o,w,t',by rw[runNT_succ_next hs];exact h1,by rw[runN_succ_next hs];exact h2,h3,h4⟩
theorem Ends.stop{m:Machine}{t:Trace}{ops:Array MemOp}{o:Outcome}{w:World}(hs:stepT P m=(.ended o w,ops))(hq:Q m o w (t++ops)):Ends P Q m t:=
 ⟨0,m,o,w,t++ops,by simp[runNT,hs],rfl,by simp[Go.step,hs],hq⟩
end
def tZ(P:Program)(Post:Value→World→Prop)(g:Goroutine)(k:Hp)(M:Nat→Prop):Prop:=
 g.status= .running∧(∀c o,M c→k c=some o→opn o=false)∧∀w,yF k w→Dom k M→∃v w' es,stepG P true g w= .ended (.done v) w' es∧dX k M w w' es∧Post v w'

def azr(P:Program)(ks:List (Nat×KC))(gm g:Goroutine):Prop:=
 (Same g gm∧gm.status= .running)∨∃(c:Nat) (z:Value) (g₁:Goroutine) (i:Nat) (g':Goroutine) (k:Hp) (M:Nat→Prop),gm=parked g₁ #[rcase c z] (.recv true)∧Same g g₁∧(∀w,stepG P true g w= .comm g₁ #[rcase c z] true (.recv true) w #[])∧ks[i]? =some (c,KC.run g' k M)

variable{P:Program}{gs:Array Goroutine}{w w':World}{t u:Trace}{k₀:Hp}{aO:Nat→Prop}{ks:List (Nat×KC)}
theorem Live.at{i c:Nat}{k:Hp}{M:Nat→Prop}(L:Live w t k₀ aO i c k M)(d:Nat):Live (w.at d) t k₀ aO i c k M:=⟨L.uG,L.dom,L.own,L.rd,L.mc,L.ghost,L.m0,L.opened,L.rdc,L.ap0,L.ap1⟩
theorem MInv.at[Base](I:MInv P gs w t k₀ aO ks)(d:Nat):MInv P gs (w.at d) t k₀ aO ks:=by
 refine⟨I.size,I.uG,I.dom,I.tok,I.own,I.rd,fun i c x hi=>?_,I.apart,I.fresh,I.has,⟨I.base.os,I.base.output,I.base.tape,I.base.size,I.base.block⟩,I.low,I.aFP⟩
 obtain⟨g,h1,h2⟩:=I.kid i c x hi
 refine⟨g,h1,?_⟩
 cases x with
 | run g' k M=>exact⟨h2.1,h2.2.1,h2.2.2.1,h2.2.2.2.at d⟩
 | acV k M=>
  obtain⟨g',v,l,z,a1,a2,a3,L⟩:=h2
  exact⟨g',v,l,z,a1,a2,a3,L.at d⟩
 | quit n=>exact h2

theorem MInv.get[Base]{i:Nat}{g:Goroutine}(I:MInv P gs w t k₀ aO ks)(h:gs[i+1]? =some g):∃c x,ks[i]? =some (c,x)∧Kid P w t k₀ aO i c g x:=by
 have hlt:i+1<gs.size:=by
  rcases Nat.lt_or_ge (i+1) gs.size with h' | h'
  ·exact h'
  ·rw[Array.getElem?_eq_none h']at h;cases h
 have hi:i<ks.length:=by have:=I.size;omega
 obtain⟨⟨c,x⟩,e⟩:∃p,ks[i]? =some p:=⟨ks[i],List.getElem?_eq_getElem hi⟩
 obtain⟨g₁,h1,h2⟩:=I.kid i c x e
 rw[h]at h1
 cases h1
 exact⟨c,x,e,h2⟩

theorem MInv.awake[Base]{gm g:Goroutine}(I:MInv P gs w t k₀ aO ks)(h0:gs[0]? =some gm)(hm:azr P ks gm g):∀g∈gs,Conc.awake g:=by
 intro x hx
 obtain⟨m,hlt,e⟩:=Array.mem_iff_getElem.1 hx
 have hm':gs[m]? =some x:=by rw[←e];exact Array.getElem?_eq_getElem hlt
 intro tm hs
 cases m with
 | zero=>
  rw[h0]at hm'
  cases hm'
  rcases hm with⟨_,h⟩ | ⟨c,z,g₁,i,g',k,M,rfl,_⟩
  ·rw[h]at hs;cases hs
  ·cases hs
 | succ i=>
  obtain⟨c,y,_,h2⟩:=I.get hm'
  cases y with
  | run _ _ _=>rw[h2.2.1]at hs;cases hs
  | acV _ _=>obtain⟨_,_,_,_,rfl,_⟩:=h2;cases hs
  | quit n=>rcases h2.1.status with h | h <;>(rw[h]at hs;cases hs)

theorem Kid.offers{i c r:Nat}{g:Goroutine}{x:KC}(h:Kid P w t k₀ aO i c g x):Conc.offersAt g r false=[]∧(c≠r→Conc.offersAt g r true=[]):=by
 cases x with
 | run _ _ _=>exact⟨Conc.offersAt_of_not_blocked (by rw[h.2.1];simp) _ _,fun _=>Conc.offersAt_of_not_blocked (by rw[h.2.1];simp) _ _⟩
 | acV _ _=>
  obtain⟨g',v,l,z,rfl,_⟩:=h
  exact⟨Conc.offersAt_parked_send' _ _ _ _ _ _,fun hne=>by rw[Conc.offersAt_parked_send,if_neg hne]⟩
 | quit n=>
  have:g.status≠ .blocked:=by rcases h.1.status with h | h <;>(rw[h];simp)
  exact⟨Conc.offersAt_of_not_blocked this _ _,fun _=>Conc.offersAt_of_not_blocked this _ _⟩

theorem azr.woken{gm g ga ga':Goroutine}{ks':List (Nat×KC)}(hm:azr P ks gm g)(w':World)
  (hc:∀(c i:Nat) (g':Goroutine) (k:Hp) (M:Nat→Prop),ks[i]? =some (c,KC.run g' k M)→((mayWake P ga&&ga'.status != .blocked&&ga'.status != .waiting)=true∧∃s r,w'.heap[c]? =some (Obj.chan 0 #[] true s r false))∨((∃s r,w'.heap[c]? =some (Obj.chan 0 #[] false s r false))∧∃(i':Nat) (g'':Goroutine) (k':Hp) (M':Nat→Prop),ks'[i']? =some (c,KC.run g'' k' M'))):
  azr P ks' (Conc.woken P ga ga' w' gm) g:=by
 rcases hm with⟨h1,h2⟩ | ⟨c,z,g₁,i,g',k,M,rfl,h1,h2,h3⟩
 ·rw[aAW (Conc.again_running w' (.inl h2))]
  exact .inl ⟨h1,h2⟩
 ·rcases hc c i g' k M h3 with⟨hw,s,r,ho⟩ | ⟨⟨s,r,ho⟩,i',g'',k',M',h4⟩
  ·unfold Conc.woken
   rw[if_pos hw,Conc.again_recv_closed ho]
   exact .inl ⟨h1,rfl⟩
  ·rw[aAW (Conc.again_recv_open ho)]
   exact .inr ⟨c,z,g₁,i',g'',k',M',rfl,h1,h2,h4⟩

theorem agt{m j:Nat}{g g':Goroutine}(hlt:m<gs.size):((gs.map (woken P g g' w')).setIfInBounds m g')[j]? =if j=m then some g' else(gs[j]?).map (woken P g g' w'):=by
 by_cases hj:j=m
 ·subst hj;simp[hlt]
 ·rw[if_neg hj,Array.getElem?_setIfInBounds_ne (fun e=>hj e.symm),Array.getElem?_map]

theorem MInv.others[Base]{i:Nat}{ga ga':Goroutine}(I:MInv P gs w t k₀ aO ks)(hlt:i+1<gs.size)(hc:∀(j c:Nat) (x:KC),j≠i→ks[j]? =some (c,x)→∀o,w.heap[c]? =some o→o.isChan=true→w'.heap[c]? =some o):
  ∀m,m≠i+1→0<m→((gs.map (woken P ga ga' w')).setIfInBounds (i+1) ga')[m]? =gs[m]? :=by
 intro m hm h0
 rw[agt hlt,if_neg hm]
 cases hg:gs[m]? with
 | none=>rfl
 | some g=>
  obtain⟨j,rfl⟩:∃j,m=j+1:=⟨m-1,by omega⟩
  obtain⟨c,x,hx,h2⟩:=I.get hg
  have:g.again w'=g:=by
   cases x with
   | run g' k M=>exact Conc.again_running w' (.inl h2.2.1)
   | acV k M=>
    obtain⟨g',v,l,z,rfl,_,_,L⟩:=h2
    obtain⟨s,r,ho⟩:=L.opened
    exact Conc.again_send_open (hc j c _ (by omega) hx _ ho rfl)
   | quit n=>exact Conc.again_running w' (h2.1.status)
  simp[aAW this]

theorem aH6[Base]{Q:Machine→Outcome→World→Trace→Prop}{i:Nat}{g gm ga:Goroutine}{sl:Option (Nat×Nat)}(I:MInv P gs w t k₀ aO ks)(h0:gs[0]? =some gm)(hm:azr P ks gm g)(hi:gs[i+1]? =some ga)(hr:ga.status= .running)
  (ih:∀ks',LR P ks' ks→∀gs gm w t sl,MInv P gs w t k₀ aO ks'→gs[0]? =some gm→azr P ks' gm g→Ends P Q (crowd gs w sl) t)
  (meet:∀(c:Nat) (z v:Value) (g₁:Goroutine) (l:List Value),(∀w,stepG P true g w= .comm g₁ #[rcase c z] true (.recv true) w #[])→k₀ c=some (gch (v::l))→∀ks',(∀p∈ks',Acc (KR P p.1) p.2)→∀gs w t sl,MInv P gs w t (hset k₀ c (gch l)) aO ks'→gs[0]? =some (g₁.finishComm P #[rcase c z] (.recv true) 0 v true)→Ends P Q (crowd gs w sl) t)
  (hacc:∀p∈ks,Acc (KR P p.1) p.2):
  ∃m' ops,runT P (crowd gs w sl) (i+1)=(.next m',ops)∧Ends P Q m' (t++ops):=by
 obtain⟨c,x,hx,hk⟩:=I.get hi
 have hlt:i+1<gs.size:=by
  rcases Nat.lt_or_ge (i+1) gs.size with h' | h'
  ·exact h'
  ·rw[Array.getElem?_eq_none h']at hi;cases hi
 have hb:((i+1)==0)=false:=by simp
 cases x with
 | acV k M=>obtain⟨_,_,_,_,rfl,_⟩:=hk;cases hr
 | quit n=>
  cases n with
  | zero=>rw[show ga.status= .finished from hk.1]at hr;cases hr
  | succ n=>
   rcases hk.1 with h | ⟨_,g',hw,hq⟩
   ·rw[h]at hr;cases hr
   ·refine⟨_,_,Conc.runT_crowd_go (w':=w) hi (by rw[hb];exact hw w),?_⟩
    have hn:t++MemOp.ofEvents (i+1) ga.frame.fn ga.frame.place #[]=t:=by rw[ofEvents_eq];simp
    rw[hn]
    have I':=I.quits hx hi hq (gs':=(gs.map (woken P ga g' w)).setIfInBounds (i+1) g') (by simp) (by rw[agt hlt,if_pos rfl]) (I.others hlt fun _ _ _ _ _ o h _=>h)
    refine ih _ (.at .quits hx) _ _ _ _ _ I' (by rw[agt hlt,if_neg (by omega),h0];rfl) (hm.woken w fun c' i' g'' k' M' h=>.inr ⟨?_,?_⟩)
    ·obtain⟨_,_,h2⟩:=I.kid i' c' _ h
     exact h2.2.2.2.opened
    ·refine⟨i',g'',k',M',?_⟩
     have:i≠i':=by rintro rfl;rw[hx]at h;cases h
     rw[List.getElem?_set,if_neg this];exact h
 | run g' k M=>
  obtain⟨rfl,_,hch,L⟩:=hk
  obtain⟨s,r,ho⟩:=L.opened
  obtain⟨l₀,hl1,hl2⟩:=L.ghost
  have aKX:∀x',KR P c x' (.run g' k M)→∀p∈ks.set i (c,x'),Acc (KR P p.1) p.2:=by
   intro x' hx' p hp
   rcases List.mem_or_eq_of_mem_set hp with h | rfl
   ·exact hacc p h
   ·exact(hacc _ (List.mem_of_getElem? hx)).inv hx'
  cases hch with
  | step hs ok h=>
   obtain⟨g₂,w',es,e,gu⟩:=ok w L.uG L.dom
   have hch':=h w g₂ w' es L.uG L.dom e
   have hrun:g₂.status= .running:=by cases hch' <;>assumption
   refine⟨_,_,Conc.runT_crowd_go hi (by rw[hb];exact e),?_⟩
   have I':=I.aJT (fn:=g'.frame.fn) (pos:=g'.frame.place) hx L gu hrun hch' (gs':=(gs.map (woken P g' g₂ w')).setIfInBounds (i+1) g₂) (by simp) (by rw[agt hlt,if_pos rfl]) (I.others hlt fun _ _ _ _ _ o h hc=>gu.chans _ _ h hc)
   refine ih _ (.at (.step L.uG L.dom ho e gu) hx) _ _ _ _ _ I' (by rw[agt hlt,if_neg (by omega),h0];rfl) (hm.woken w' fun c' i' g'' k' M' h=>.inr ⟨?_,?_⟩)
   ·obtain⟨_,_,h2⟩:=I.kid i' c' _ h
    obtain⟨s',r',ho'⟩:=h2.2.2.2.opened
    exact⟨s',r',gu.chans _ _ ho' rfl⟩
   ·by_cases hii:i=i'
    ·subst hii
     rw[hx]at h
     cases h
     exact⟨i,_,_,_,by rw[List.getElem?_set,if_pos rfl,if_pos (ayx hx)]⟩
    ·exact⟨i',g'',k',M',by rw[List.getElem?_set,if_neg hii];exact h⟩
  | close hs hk hw hs' e hq=>
   refine⟨_,_,Conc.runT_crowd_go hi (by rw[hb];exact e w s r ho),?_⟩
   have hsh:∀b,b≠c→(w.shut c s r false).heap[b]? =w.heap[b]? :=fun b hb=>by simp[World.shut,Ne.symm hb]
   have aMQ:(w.shut c s r false).heap[c]? =some (.chan 0 #[] true s r false):=by simp[World.shut,m_ ho]
   have I':=I.close (fn:=g'.frame.fn) (pos:=g'.frame.place) hx L hk hq ho (gs':=(gs.map (woken P g' _ (w.shut c s r false))).setIfInBounds (i+1) _) (by simp) (by rw[agt hlt,if_pos rfl]) (I.others hlt fun j c' x' hj hjx o h _=>by rw[hsh c' (I.apart j i c' c x' _ hj hjx hx).1];exact h)
   refine ih _ (.at .quit hx) _ _ _ _ _ I' (by rw[agt hlt,if_neg (by omega),h0];rfl) (hm.woken _ fun c' i' g'' k' M' h=>?_)
   by_cases hii:i=i'
   ·subst hii
    rw[hx]at h
    cases h
    exact .inl ⟨by rw[hw,hs'];rfl,s,r,aMQ⟩
   ·obtain⟨_,_,h2⟩:=I.kid i' c' _ h
    obtain⟨s',r',ho'⟩:=h2.2.2.2.opened
    exact .inr ⟨⟨s',r',by rw[hsh c' (I.apart i' i c' c _ _ (Ne.symm hii) h hx).1];exact ho'⟩,i',g'',k',M',by rw[List.getElem?_set,if_neg hii];exact h⟩
  | @send _ g₂ _ _ v z l hs hk e h=>
   
   have kids:∀(m:Nat) (y:Goroutine),m≠0→(gs.setIfInBounds (i+1) Conc.ph)[m]? =some y→Conc.offersAt y c false=[]:=by
    intro m y hm hy
    rcases Conc.getElem?_stand gs (i+1) m y hy with⟨_,rfl⟩ | ⟨_,hy⟩
    ·exact Conc.offersAt_ph _ _
    ·obtain⟨j,rfl⟩:∃j,m=j+1:=⟨m-1,by omega⟩
     obtain⟨_,_,_,h2⟩:=I.get hy
     exact h2.offers.1
   have h0':(gs.setIfInBounds (i+1) Conc.ph)[0]? =some gm:=by rw[Array.getElem?_setIfInBounds_ne (by omega)];exact h0
   have hgo:∀(gs₁:Array Goroutine) (x:Goroutine),gs₁.size=gs.size→(∀m,m≠i+1→0<m→gs₁[m]? =gs[m]?)→∀m,m≠i+1→0<m→(gs₁.setIfInBounds (i+1) x)[m]? =gs[m]? :=fun gs₁ x _ h m hm h'=>by
    rw[Array.getElem?_setIfInBounds_ne (fun e=>hm e.symm)];exact h m hm h'
   have waits:Conc.offersAt gm c false=[]→(∀c' z' g₁,gm=parked g₁ #[rcase c' z'] (.recv true)→c'≠c)→∃m' ops,runT P (crowd gs w sl) (i+1)=(.next m',ops)∧Ends P Q m' (t++ops):=by
    intro hno hne
    have hp:partners (gs.setIfInBounds (i+1) Conc.ph) c false=[]:=Conc.partners_nil fun m y hy=>by
     by_cases hm0:m=0
     ·subst hm0
      rw[h0']at hy;cases hy
      exact hno
     ·exact kids m y hm0 hy
    refine⟨_,_,Conc.crowd_waits hi (by rw[hb];exact e w) (fun cc hcc=>?_),?_⟩
    ·obtain rfl:cc=scase c v z:=by simpa using hcc
     exact Conc.ways_send_none ho (by simp) hp
    have hn:t++MemOp.ofEvents (i+1) g'.frame.fn g'.frame.place #[]=t:=by rw[ofEvents_eq];simp
    rw[hn]
    have I':=I.acV hx L hk h (gs':=gs.setIfInBounds (i+1) (parked g₂ #[scase c v z] .send)) (by simp) (by rw[Array.getElem?_setIfInBounds_self_of_lt hlt]) (hgo gs _ rfl fun _ _ _=>rfl)
    refine ih _ (.at .acV hx) _ gm _ _ _ I' (by rw[Array.getElem?_setIfInBounds_ne (by omega)];exact h0) ?_
    rcases hm with hm | ⟨c',z',g₁,i',g'',k',M',e1,e2,e3,e4⟩
    ·exact .inl hm
    ·refine .inr ⟨c',z',g₁,i',g'',k',M',e1,e2,e3,?_⟩
     have:i≠i':=by
      rintro rfl
      rw[hx]at e4
      cases e4
      exact hne _ _ _ e1 rfl
     rw[List.getElem?_set,if_neg this];exact e4
   rcases hm with⟨_,hm⟩ | ⟨c',z',g₁,i',g'',k',M',rfl,e2,e3,e4⟩
   ·refine waits (Conc.offersAt_of_not_blocked (by rw[hm];simp) _ _) fun c' z' g₁ e=>?_
    rw[e]at hm;cases hm
   ·by_cases hcc:c'=c
    ·subst hcc
     have hp:partners (gs.setIfInBounds (i+1) Conc.ph) c' false=[(0,0)]:=by
      rw[Conc.partners_one h0' fun m y hm hy=>kids m y hm hy,Conc.offersAt_parked_recv,if_pos rfl];rfl
     refine⟨_,_,Conc.crowd_send_meets hi (by rw[hb];exact e w) ho (by omega) h0 hp,?_⟩
     have hgk:(hset k c' (gch l)) c'=some (gch l):=bH _ _ _
     have hrun:(g₂.finishComm P #[scase c' v z] .send 0 undef false).status= .running:=rfl
     have I':=I.meet (w':=w.setChan c' 0 #[] false (s+1) (r+1) false) (s:=s+1) (r:=r+1) hx rfl L hk hrun h (by simp[World.setChan]) (fun b hb=>by simp[World.setChan,Ne.symm hb]) (by simp[World.setChan,m_ ho])
      (
       u:=MemOp.ofEvents (i+1) g'.frame.fn g'.frame.place #[]++ #[{g:=i+1,fn:=g₂.frame.fn,pos:=g₂.frame.place,act:=.send c' s},{g:=0,fn:=g₁.frame.fn,pos:=g₁.frame.place,act:=.recv c' r 0},
       {g:=i+1,fn:=g₂.frame.fn,pos:=g₂.frame.place,act:=.sendDone c' s},{g:=0,fn:=g₁.frame.fn,pos:=g₁.frame.place,act:=.recvDone c' r}])
      (
       fun op hop=>by
       have hil:=ayx hx
       have:op={g:=i+1,fn:=g₂.frame.fn,pos:=g₂.frame.place,act:=.send c' s}∨op={g:=0,fn:=g₁.frame.fn,pos:=g₁.frame.place,act:=.recv c' r 0}∨op={g:=i+1,fn:=g₂.frame.fn,pos:=g₂.frame.place,act:=.sendDone c' s}∨op={g:=0,fn:=g₁.frame.fn,pos:=g₁.frame.place,act:=.recvDone c' r}:=by
        rw[ofEvents_eq]at hop;simpa using hop
       rcases this with rfl | rfl | rfl | rfl <;>exact⟨rfl,by simp,by simp;try omega⟩) rfl rfl rfl
      (gs':=(gs.setIfInBounds 0 (g₁.finishComm P #[rcase c' z'] (.recv true) 0 v true)).setIfInBounds (i+1) (g₂.finishComm P #[scase c' v z] .send 0 undef false))
      (by simp) (by rw[Array.getElem?_setIfInBounds_self_of_lt (by simpa using hlt)]) (hgo _ _ (by simp) fun m _ hm'=>by rw[Array.getElem?_setIfInBounds_ne (by omega)])
     rw[hk]at hl1
     have hl:=azS hl1
     subst hl
     refine meet c' z' v g₁ l e3 hl2 _ ?_ _ _ _ _ I' ?_
     ·intro p hp
      rcases List.mem_or_eq_of_mem_set hp with h' | rfl
      ·exact hacc p h'
      ·exact h.acc
     ·rw[Array.getElem?_setIfInBounds_ne (by omega),Array.getElem?_setIfInBounds_self_of_lt (by omega)]
    ·refine waits (by rw[Conc.offersAt_parked_recv,if_neg hcc]) fun c'' z'' g₁' e=>?_
     have:c'=c'':=by
      simp only[parked,rcase,Goroutine.mk.injEq,Option.some.injEq,Prod.mk.injEq]at e
      exact(by simpa using e.2.2.2.2.1:c'=c''∧z'=z'').1
     rw[←this];exact hcc
end Go.aS

/- Goroutine 0 and the senders that it starts: on every tape the run ends well. Conditions: none; over any program. -/
namespace Go.aS
open Go.Conc (crowd parked rcase scase QuitsIn Before Knows knows_own touchAt touchAt_of touchAt_old getElem?_append_old getElem?_append_cases lt_size_of_getElem? touch_of hb_po hb_app ofEvents_eq woken)
variable{P:Program}{gs:Array Goroutine}{w w':World}{t u:Trace}{k₀:Hp}{aO:Nat→Prop}{ks:List (Nat×KC)}
theorem runT_crowd_ended{sl:Option (Nat×Nat)}{i:Nat}{g:Goroutine}{o:Outcome}{es:Array Event}(hi:gs[i]? =some g)(h:stepG P (i==0) g w= .ended o w' es):
  runT P (crowd gs w sl) i=(.ended o w',MemOp.ofEvents i g.frame.fn g.frame.place es):=by
 obtain⟨hlt,rfl⟩:=Array.getElem?_eq_some_iff.1 hi
 have hsw:=Conc.swapAt_of_lt hlt {(default:Goroutine)with status:=.finished}
 show runT P {world:=w,gs:=gs,rest:={timers:= #[],alone:=none,slice:=sl}} i=_
 unfold runT
 simp only[hsw,h,GStep.es]

theorem LR.aKX[Base]:∀{l l':List (Nat×KC)},LR P l' l→(∀p∈l,Acc (KR P p.1) p.2)→∀p∈l',Acc (KR P p.1) p.2
 | _,_,.here h,ha,p,hp=>by
  rcases List.mem_cons.1 hp with rfl | hp
  ·exact(ha _ (List.mem_cons_self ..)).inv h
  ·exact ha p (List.mem_cons_of_mem _ hp)
 | _,_,.there h,ha,p,hp=>by
  rcases List.mem_cons.1 hp with rfl | hp
  ·exact ha _ (List.mem_cons_self ..)
  ·exact h.aKX (fun q hq=>ha q (List.mem_cons_of_mem _ hq)) p hp

inductive aGq[Base](P:Program)(Q:Machine→Outcome→World→Trace→Prop)(g:Goroutine)(k₀:Hp)(aO:Nat→Prop)(ks:List (Nat×KC))(gs:Array Goroutine)(w:World)(t:Trace)(sl:Option (Nat×Nat)):Prop
 | on {m':Machine} {ops:Array MemOp} (h:runT P (crowd gs w sl) 0=(.next m',ops)) (he:Ends P Q m' (t++ops))
 | over {o:Outcome} {w':World} {ops:Array MemOp} (h:runT P (crowd gs w sl) 0=(.ended o w',ops)) (he:∀sl' d,Q (crowd gs (w.at d) sl') o w' (t++ops))
 | waits {gs':Array Goroutine} {gm':Goroutine} {ops:Array MemOp} (h:runT P (crowd gs w sl) 0=(.next (crowd gs' w sl),ops)) (ht:t++ops=t) (I:MInv P gs' w t k₀ aO ks) (h0:gs'[0]? =some gm')
   (hp:∃(c:Nat) (z:Value) (g₁:Goroutine) (i:Nat) (g':Goroutine) (k:Hp) (M:Nat→Prop),gm'=parked g₁ #[rcase c z] (.recv true)∧Same g g₁∧(∀w,stepG P true g w= .comm g₁ #[rcase c z] true (.recv true) w #[])∧ks[i]? =some (c,KC.run g' k M))

theorem node[Base]{Q:Machine→Outcome→World→Trace→Prop}{g:Goroutine}
  (move:∀ks,(∀p∈ks,Acc (KR P p.1) p.2)→∀gs gm w t sl,MInv P gs w t k₀ aO ks→gs[0]? =some gm→Same g gm→gm.status= .running→aGq P Q g k₀ aO ks gs w t sl)
  (meet:∀w₀,yF k₀ w₀→Dom k₀ aO→∀(c:Nat) (z v:Value) (g₁:Goroutine) (l:List Value),(∀w,stepG P true g w= .comm g₁ #[rcase c z] true (.recv true) w #[])→k₀ c=some (gch (v::l))→∀ks',(∀p∈ks',Acc (KR P p.1) p.2)→∀gs w t sl,MInv P gs w t (hset k₀ c (gch l)) aO ks'→gs[0]? =some (g₁.finishComm P #[rcase c z] (.recv true) 0 v true)→Ends P Q (crowd gs w sl) t):
  ∀ks,(∀p∈ks,Acc (KR P p.1) p.2)→∀gs gm w t sl,MInv P gs w t k₀ aO ks→gs[0]? =some gm→azr P ks gm g→Ends P Q (crowd gs w sl) t:=by
 intro ks hacc
 have hL:=aGo hacc
 induction hL with
 | intro ks _ ih=>
  have ih':∀ks',LR P ks' ks→∀gs gm w t sl,MInv P gs w t k₀ aO ks'→gs[0]? =some gm→azr P ks' gm g→Ends P Q (crowd gs w sl) t:=fun ks' h=>ih ks' h (h.aKX hacc)
  have kid:∀gs gm w t sl i ga,MInv P gs w t k₀ aO ks→gs[0]? =some gm→azr P ks gm g→gs[i+1]? =some ga→ga.status= .running→∃m' ops,runT P (crowd gs w sl) (i+1)=(.next m',ops)∧Ends P Q m' (t++ops):=
   fun gs gm w t sl i ga I h0 hm hi hr=>aH6 I h0 hm hi hr ih' (meet w I.uG I.dom) hacc
  
  have aHE:∀gs gm w t sl,MInv P gs w t k₀ aO ks→gs[0]? =some gm→(∃(c:Nat) (z:Value) (g₁:Goroutine) (i:Nat) (g':Goroutine) (k:Hp) (M:Nat→Prop),gm=parked g₁ #[rcase c z] (.recv true)∧Same g g₁∧(∀w,stepG P true g w= .comm g₁ #[rcase c z] true (.recv true) w #[])∧ks[i]? =some (c,KC.run g' k M))→Ends P Q (crowd gs w sl) t:=by
   intro gs gm w t sl I h0 hp
   have hm:azr P ks gm g:=.inr hp
   obtain⟨c,z,g₁,i,g',k,M,e1,e2,e3,e4⟩:=hp
   obtain⟨gi,hgi,hk⟩:=I.kid i c _ e4
   obtain⟨i₀,ga,d,sl',h1,h2,h3⟩:=Conc.crowd_pick (P:=P) (w:=w) (sl:=sl) (I.awake h0 hm) ⟨i+1,gi,hgi,hk.2.1⟩
   cases i₀ with
   | zero=>rw[h0]at h1;cases h1;rw[e1]at h2;cases h2
   | succ j=>
    obtain⟨m',ops,h4,h5⟩:=kid gs gm (w.at d) t sl' j ga (I.at d) h0 hm h1 h2
    exact Ends.step (h3.trans h4) h5
  intro gs gm w t sl I h0 hm
  rcases hm with⟨hsame,hr⟩ | hp
  ·have hm:azr P ks gm g:=.inl ⟨hsame,hr⟩
   obtain⟨i₀,ga,d,sl',h1,h2,h3⟩:=Conc.crowd_pick (P:=P) (w:=w) (sl:=sl) (I.awake h0 hm) ⟨0,gm,h0,hr⟩
   cases i₀ with
   | zero=>
    rw[h0]at h1;cases h1
    cases move ks hacc gs gm (w.at d) t sl' (I.at d) h0 hsame hr with
    | on h he=>exact Ends.step (h3.trans h) he
    | over h he=>exact Ends.stop (h3.trans h) (he sl w.drawn)
    | waits h ht I' h0' hp=>
     refine Ends.step (h3.trans h) ?_
     rw[ht]
     exact aHE _ _ _ _ _ I' h0' hp
   | succ j=>
    obtain⟨m',ops,h4,h5⟩:=kid gs gm (w.at d) t sl' j ga (I.at d) h0 hm h1 h2
    exact Ends.step (h3.trans h4) h5
  ·exact aHE _ _ _ _ _ I h0 hp
end Go.aS
