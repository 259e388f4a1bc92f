/- Laws of the single operations that own nothing new. Conditions: none; over any program. (And 7 texts more.) -/
import Derived.Test.YtamjhbmelpkgpaaDoorR01
import Derived.IntWalk
import Derived.KernelRfl
set_option linter.unusedVariables false
set_option linter.unusedSimpArgs false
set_option linter.unusedSectionVars false

/- Laws of the single operations that own nothing new. Conditions: none; over any program. -/
namespace Go.aS
class TD(P:Program)(t:TypeId)(d:outParam TypeDesc):Prop where
  out:P.underlying t=some d
class TI(P:Program)(t:TypeId)(size bytes:outParam Nat)(zero:outParam Value)(zc:outParam (Array Value)):Prop where
  eq:(P.info? t).map (fun i=>(i.size,i.bytes,i.zero))=some (size,bytes,some zero)
  cells:zero.cells=zc
theorem TI.out{P:Program}{t s b:Nat}{z:Value}{zc:Array Value}(i:TI P t s b z zc):∃j,P.info? t=some j∧j.size=s∧j.bytes=b∧j.zero=some z∧z.cells=zc:=by
  obtain⟨j,h1,h2⟩:=Option.map_eq_some_iff.1 i.eq
  simp only[Prod.mk.injEq]at h2
  exact⟨j,h1,h2.1,h2.2.1,h2.2.2,i.cells⟩
def Tf:TypeDesc→Bool
  | .struct _ | .array _ _=>true
  | _=>false
class SC(P:Program)(t:TypeId):Prop where
  eq:(P.underlying t).map Tf=some false
theorem SC.out{P:Program}{t:TypeId}(i:SC P t):∃d,P.underlying t=some d∧(∀fs,d≠ .struct fs)∧(∀n e,d≠ .array n e):=by
  obtain⟨d,h1,h2⟩:=Option.map_eq_some_iff.1 i.eq
  exact⟨d,h1,(fun fs e=>by subst e;cases h2),(fun n e e'=>by subst e';cases h2)⟩
class AG(P:Program)(t:TypeId)(n:outParam Nat):Prop where
  eq:(P.underlying t).map Tf=some true
  size:(P.info? t).map (·.size)=some n
theorem AG.out{P:Program}{t n:Nat}(i:AG P t n):∃d j,P.underlying t=some d∧((∃fs,d= .struct fs)∨∃m e,d= .array m e)∧P.info? t=some j∧j.size=n:=by
  obtain⟨d,h1,h2⟩:=Option.map_eq_some_iff.1 i.eq
  obtain⟨j,h3,h4⟩:=Option.map_eq_some_iff.1 i.size
  refine⟨d,j,h1,?_,h3,h4⟩
  cases d <;>first | exact .inl ⟨_,rfl⟩ | exact .inr ⟨_,_,rfl⟩ | cases h2
def Zg(P:Program)(f:Nat):TypeDesc→Option (Nat×TypeId×Option Nat)
  | .struct fs=>(fs[f]?).map fun fl=>(fl.offset,fl.type,(P.info? fl.type).map (·.size))
  | _=>none
class FA(P:Program)(s f:Nat)(off:outParam Nat)(ft:outParam TypeId):Prop where
  eq:∃n,(P.underlying s).bind (Zg P f)=some (off,ft,some (n+1))
theorem FA.out{P:Program}{s f off ft:Nat}(i:FA P s f off ft):∃fs fl j,P.underlying s=some (.struct fs)∧fs[f]? =some fl∧fl.offset=off∧fl.type=ft∧P.info? ft=some j∧j.size≠0:=by
  obtain⟨n,h⟩:=i.eq
  obtain⟨d,h1,h2⟩:=Option.bind_eq_some_iff.1 h
  cases d with
  | struct fs=>
    obtain⟨fl,h3,h4⟩:=Option.map_eq_some_iff.1 h2
    simp only[Prod.mk.injEq]at h4
    obtain⟨j,h5,h6⟩:=Option.map_eq_some_iff.1 h4.2.2
    exact⟨fs,fl,j,h1,h3,h4.1,h4.2.1,h4.2.1▸h5,by omega⟩
  | _=>cases h2
class FB(P:Program)(f:FuncId):Prop where
  eq:(P.funcs[f]?).map (fun fn=>(fn.name== "runtime.NumGoroutine",fn.body.isNone))=some (false,false)
theorem FB.out{P:Program}{f:FuncId}(i:FB P f):∃fn,P.funcs[f]? =some fn∧(fn.name== "runtime.NumGoroutine")=false∧fn.body.isNone=false:=by
  obtain⟨fn,h1,h2⟩:=Option.map_eq_some_iff.1 i.eq
  simp only[Prod.mk.injEq]at h2
  exact⟨fn,h1,h2.1,h2.2⟩

def Gv(h:Hp)(S:ah→Prop)(b:Nat)(o:Obj):Prop:=h b=some o∨∀F,S F→(b,o)∈F
theorem Gv.look{h h':Hp}{S:ah→Prop}{b:Nat}{o:Obj}(H:Gv h S b o){F:ah}(hS:S F)(hE:Ext h h'):Look h' F b o:=H.imp (hE.1 b o) fun x=>x F hS

def Yv(x:Cx)(S:ah→Prop)(ρ:Env)(o:Oper)(v:Value):Prop:=
  ∀e:Operand→Value,(∀y v,ev ρ y=some v→e y=v)→∀F,S F→∀h',Ext x.h h'→tr x.P h' (execOp e o) F fun nx F'=>nx= .value v∧F'=F

def cu(o:Op):Bool:=match o with | .defer _=>false | _=>true
theorem gI{o:Op}(h:cu o=true):∀c,o≠ .defer c:=by rintro c rfl;cases h

section rules
variable{x:Cx}{Q:Post}{ρ:Env}{ds:List Deferred}{F:ah}{ops:Array Oper}{S:ah→Prop}{i:Nat}{rest:List Nat}{o:Oper}{v:Value}
theorem Ops.quiet(H:Ops x ops rest Q (put ρ o.dst v) ds F)(ho:ops[i]? =some o)(hw:want ops ρ o)(hd:d_ o.dst x.n=true)(hn:cu o.op=true)(hy:Yv x (· =F) ρ o v):Ops x ops (i::rest) Q ρ ds F:=
  Ops.op ho hw hd (gI hn) fun e he=>⟨F,[],by simp,fun h' hE _=>lM (hy e he F rfl h' hE) fun nx F' ⟨e1,e2⟩=>by subst e1 e2;simpa[ni]using H⟩

theorem Any.quiet{fuel listed:Nat}{L:ah}(H:Any x ops L fuel (listed||| 2 ^ i) Q (put ρ o.dst v) ds F)(hr:Fq ops listed i=true)(hf:xR ops listed i=true)(hi:ops[i]? =some o)(hs:DJ ops=true)(hw:dR ops (look ρ) o true)
    (hd:d_ o.dst x.n=true) (hn:cu o.op=true) (hS:Keeps L F) (hy:Yv x (Keeps L) ρ o v):Any x ops L (fuel+1) listed Q ρ ds F:=
  Any.take hi hs hf hr hd (gI hn) hS (.inl ⟨hw,fun e he F hF h' hE=>hy e (fun y v hv=>he y v (by rwa[DC])) F hF h' hE⟩) H

theorem Any.pass{fuel listed:Nat}{L:ah}(H:Any x ops L fuel (listed||| 2 ^ i) Q (put ρ o.dst undef) ds F)(hr:Fq ops listed i=true)(hf:xR ops listed i=true)(hi:ops[i]? =some o)(hs:DJ ops=true)(hw:dR ops (look ρ) o false)
    (hd:d_ o.dst x.n=true) (hn:cu o.op=true) (hS:Keeps L F):Any x ops L (fuel+1) listed Q ρ ds F:=
  Any.take hi hs hf hr hd (gI hn) hS (.inr ⟨hw,rfl⟩) H

/-! ### Values -/
theorem aN{y:Operand}(ho:o.op= .move y)(hy:ev ρ y=some v):Yv x S ρ o v:=fun e he F _ h' hE=>by
  simp only[execOp,ho,he y v hy];exact⟨rfl,rfl⟩
theorem jS{y:Operand}(ho:o.op= .assign y)(hy:ev ρ y=some v):Yv x S ρ o v:=fun e he F _ h' hE=>by
  simp only[execOp,ho,he y v hy];exact⟨rfl,rfl⟩
theorem dG{c a b:Operand}(ho:o.op= .pick c a b)(hc:ev ρ c=some (.bool true))(hy:ev ρ a=some v):Yv x S ρ o v:=fun e he F _ h' hE=>by
  simp only[execOp,ho,he c _ hc,he a v hy];exact⟨rfl,rfl⟩
theorem iH{c a b:Operand}(ho:o.op= .pick c a b)(hc:ev ρ c=some (.bool false))(hy:ev ρ b=some v):Yv x S ρ o v:=fun e he F _ h' hE=>by
  simp only[execOp,ho,he c _ hc,he b v hy];exact⟨rfl,rfl⟩

theorem bg{y:Operand}{a:Addr}(ho:o.op= .nilCheck y)(hy:ev ρ y=some (.pointer (some a))):Yv x S ρ o (.pointer (some a)):=fun e he F _ h' hE=>by
  simp only[execOp,ho,he y _ hy];exact⟨rfl,rfl⟩
theorem aT{y:Operand}{f:FuncId}{a b:Array Value}(ho:o.op= .nilCheck y)(hy:ev ρ y=some (.func (.func f) a b)):Yv x S ρ o (.func (.func f) a b):=fun e he F _ h' hE=>by
  simp only[execOp,ho,he y _ hy];exact⟨rfl,rfl⟩

/-! #### memory -/
theorem bind_eq{α β:Type}(s:Sem α)(f:α→Sem β):(s >>=f)=s.bind f:=rfl
theorem au{α:Type}(a:α):(pure a:Sem α)= .pure a:=rfl
theorem bind_pure{α β:Type}(a:α)(f:α→Sem β):(Sem.pure a).bind f=f a:=rfl
theorem bind_assoc{α β γ:Type}(s:Sem α)(f:α→Sem β)(g:β→Sem γ):(s.bind f).bind g=s.bind fun a=>(f a).bind g:=by
  induction s with
  | pure a=>rfl
  | load m a k ih=>simp only[Sem.bind,ih]
  | store m a v k ih=>simp only[Sem.bind,ih]
  | new o k ih=>simp only[Sem.bind,ih]
  | shape r k ih=>simp only[Sem.bind,ih]
  | freeze a n k ih=>simp only[Sem.bind,ih]
  | frozen a k ih=>simp only[Sem.bind,ih]
  | getObj r k ih=>simp only[Sem.bind,ih]
  | setObj r o k ih=>simp only[Sem.bind,ih]
  | choose q k ih=>simp only[Sem.bind,ih]
  | sys c k ih=>simp only[Sem.bind,ih]
  | program k ih=>simp only[Sem.bind,ih]
  | mark m k ih=>simp only[Sem.bind,ih]
  | halt h=>rfl

section eqs
variable{P:Program}{h:Hp}{β:Type}
theorem l7{f:Program→Sem β}{Q:β→ah→Prop}:tr P h (program.bind f) F Q=tr P h (f P) F Q:=rfl
theorem aC{t:TypeId}{d:TypeDesc}[i:TD P t d]{f:TypeDesc→Sem β}{Q:β→ah→Prop}:tr P h ((underlying t).bind f) F Q=tr P h (f d) F Q:=by
  simp only[underlying,program,bind_eq,au,Sem.bind,tr,i.out]
theorem dJ{t:TypeId}{j:TypeInfo}(hj:P.info? t=some j){f:TypeInfo→Sem β}{Q:β→ah→Prop}:tr P h ((typeInfo t).bind f) F Q=tr P h (f j) F Q:=by
  simp only[typeInfo,program,bind_eq,au,Sem.bind,tr,hj]
theorem dH{t s b:Nat}{z:Value}{zc:Array Value}[i:TI P t s b z zc]{f:Nat→Sem β}{Q:β→ah→Prop}:tr P h ((sizeOf t).bind f) F Q=tr P h (f s) F Q:=by
  obtain⟨j,h1,h2,_⟩:=i.out
  simp only[sizeOf,bind_eq,au,bind_assoc,dJ h1,bind_pure,h2]
theorem fG{t s b:Nat}{z:Value}{zc:Array Value}[i:TI P t s b z zc]{f:Value→Sem β}{Q:β→ah→Prop}:tr P h ((zeroValue t).bind f) F Q=tr P h (f z) F Q:=by
  obtain⟨j,h1,_,_,h2,_⟩:=i.out
  simp only[zeroValue,bind_eq,au,bind_assoc,dJ h1,bind_pure,h2]
theorem o9{t n:Nat}[i:AG P t n]{f:Nat→Sem β}{Q:β→ah→Prop}:tr P h ((sizeOf t).bind f) F Q=tr P h (f n) F Q:=by
  obtain⟨d,j,_,_,h1,h2⟩:=i.out
  simp only[sizeOf,bind_eq,au,bind_assoc,dJ h1,bind_pure,h2]
theorem Fv{t n:Nat}[i:AG P t n]{f:Bool→Sem β}{Q:β→ah→Prop}:tr P h ((isAgg t).bind f) F Q=tr P h (f true) F Q:=by
  obtain⟨d,j,h1,h2,_⟩:=i.out
  have:TD P t d:=⟨h1⟩
  simp only[isAgg,bind_eq,au,bind_assoc,aC]
  rcases h2 with⟨fs,rfl⟩ | ⟨m,e,rfl⟩ <;>rfl
theorem II{t:TypeId}[i:SC P t]{f:Bool→Sem β}{Q:β→ah→Prop}:tr P h ((isAgg t).bind f) F Q=tr P h (f false) F Q:=by
  obtain⟨d,h1,h2,h3⟩:=i.out
  have:TD P t d:=⟨h1⟩
  simp only[isAgg,bind_eq,au,bind_assoc,aC]
  cases d <;>first | rfl | exact absurd rfl (h2 _) | exact absurd rfl (h3 _ _)
end eqs
theorem jE{a:Addr}(h:a.spot=none)(n:Nat):a.add n=⟨a.block,a.off+n,none⟩:=by
  obtain⟨b,o,s⟩:=a
  simp only at h
  subst h
  unfold Addr.add
  split <;>simp_all

theorem MX{P:Program}{h:Hp}{b off:Nat}{c:Array Value}{E:TypeId}{fz:Nat×Nat}{u:Value}{Q:Value→ah→Prop}(hl:Look h F b (.cells c E fz))(hc:c[off]? =some u)(H:Q u F):tr P h (load ⟨b,off,none⟩) F Q:=
  ⟨rfl,rfl,c,E,fz,u,hl,hc,H⟩

theorem gX{P:Program}{h:Hp}{b off:Nat}{c:Array Value}{E:TypeId}{fz:Nat×Nat}(hl:Look h F b (.cells c E fz)):∀(n i:Nat) (acc:Array Value) {Q:Array Value→ah→Prop},off+i+n≤c.size→Q (acc++c.extract (off+i) (off+i+n)) F→tr P h (loadCellsFrom ⟨b,off,none⟩ i n acc) F Q
  | 0,i,acc,Q,_,H=>by
    have e:c.extract (off+i) (off+i+0)= #[]:=by simp;omega
    rw[e,Array.append_empty]at H
    exact H
  | n+1,i,acc,Q,hn,H=>by
    have hlt:off+i<c.size:=by omega
    simp only[loadCellsFrom,jE,bind_eq]
    refine bJ (MX hl (Array.getElem?_eq_getElem hlt) ?_)
    refine gX hl n (i+1) _ (by omega) ?_
    have e:acc.push c[off+i]++c.extract (off+(i+1)) (off+(i+1)+n)=acc++c.extract (off+i) (off+i+(n+1)):=by
      apply Array.ext
      · simp;omega
      · intro j h1 h2
        simp only[Array.getElem_append,Array.size_push,Array.getElem_extract,Array.getElem_push]
        by_cases ha:j<acc.size
        · have hb:j<acc.size+1:=by omega
          simp only[ha,hb,dif_pos]
        · by_cases hb:j<acc.size+1
          · have:j=acc.size:=by omega
            subst this
            simp
          · simp only[ha,hb,dif_neg,not_false_eq_true]
            congr 1;omega
    rw[e]
    exact H

theorem Wp{t:TypeId}{a:Operand}{b off:Nat}{c:Array Value}{E:TypeId}{fz:Nat×Nat}(ho:o.op= .load t a)[SC x.P t](ha:ev ρ a=some (.pointer (some ⟨b,off,none⟩)))(hl:Gv x.h S b (.cells c E fz))(hc:c[off]? =some v):Yv x S ρ o v:=fun e he F hF h' hE=>by
  simp only[execOp,ho,he a _ ha,Instr.loadAt,Instr.sureAddr,loadVar,bind_eq,au,bind_assoc,bind_pure,II,Bool.false_eq_true,if_false]
  exact bJ (MX (hl.look hF hE) hc ⟨rfl,rfl⟩)

theorem Ih{t n:Nat}{a:Operand}{b off:Nat}{c vs:Array Value}{E:TypeId}{fz:Nat×Nat}(ho:o.op= .load t a)[AG x.P t n](ha:ev ρ a=some (.pointer (some ⟨b,off,none⟩)))(hl:Gv x.h S b (.cells c E fz))(hn:off+n≤c.size)(hv:c.extract off (off+n)=vs):Yv x S ρ o (.agg vs):=fun e he F hF h' hE=>by
  simp only[execOp,ho,he a _ ha,Instr.loadAt,Instr.sureAddr,loadVar,bind_eq,au,bind_assoc,bind_pure,Fv,if_true,o9,loadCells]
  refine bJ (gX (hl.look hF hE) n 0 #[] (by omega) ?_)
  simp[tr,hv]

theorem ay{s f off' ft:Nat}{a:Operand}{b off:Nat}(ho:o.op= .fieldAddr s a f)[i:FA x.P s f off' ft](ha:ev ρ a=some (.pointer (some ⟨b,off,none⟩))):Yv x S ρ o (.pointer (some ⟨b,off+off',none⟩)):=fun e he F hF h' hE=>by
  obtain⟨fs,fl,j,h1,h2,h3,h4,h5,h6⟩:=i.out
  have hu:TD x.P s (.struct fs):=⟨h1⟩
  subst h4
  simp only[execOp,ho,he a _ ha,Instr.fieldAt,Instr.sureAddr,fieldPlace,sizeOf,bind_eq,au,bind_assoc,bind_pure,aC,h2,dJ h5,if_neg h6,jE,h3]
  exact⟨rfl,rfl⟩

theorem y5{t E s by':Nat}{z:Value}{zc:Array Value}{a ix:Operand}{b off len cap:Nat}{k:IntKind}{n:Int}(ho:o.op= .indexAddr t a ix)[TD x.P t (.slice E)][TI x.P E s by' z zc](ha:ev ρ a=some (.slice (some ⟨b,off,none⟩) len cap))(hi:ev ρ ix=some (.int k n))(h0:0≤n)(h1:n<len):
    Yv x S ρ o (.pointer (some ⟨b,off+n.toNat*s,none⟩)):=fun e he F hF h' hE=>by
  simp only[execOp,ho,he a _ ha,he ix _ hi,Instr.indexAt,asIntOf,bind_eq,au,bind_assoc,bind_pure,aC,h0,h1,and_self,if_true,dH,jE]
  exact⟨rfl,rfl⟩
theorem DK{t E s by':Nat}{z:Value}{zc:Array Value}{a ix:Operand}{b off len cap:Nat}{k:IntKind}{n:Nat}(ho:o.op= .indexAddr t a ix)[TD x.P t (.slice E)][TI x.P E s by' z zc](ha:ev ρ a=some (.slice (some ⟨b,off,none⟩) len cap))(hi:ev ρ ix=some (.int k (n:Int)))(h1:n<len):
    Yv x S ρ o (.pointer (some ⟨b,off+n*s,none⟩)):=y5 ho ha hi (by omega) (by omega)
theorem DL{t E s by' m:Nat}{z:Value}{zc:Array Value}{a ix:Operand}{b off:Nat}{k:IntKind}{n:Int}(ho:o.op= .indexAddr t a ix)[TD x.P t (.array m E)][TI x.P E s by' z zc](ha:ev ρ a=some (.pointer (some ⟨b,off,none⟩)))(hi:ev ρ ix=some (.int k n))(h0:0≤n)(h1:n<m):
    Yv x S ρ o (.pointer (some ⟨b,off+n.toNat*s,none⟩)):=fun e he F hF h' hE=>by
  simp only[execOp,ho,he a _ ha,he ix _ hi,Instr.indexAt,Instr.sureAddr,asIntOf,bind_eq,au,bind_assoc,bind_pure,aC,h0,h1,and_self,if_true,dH,jE]
  exact⟨rfl,rfl⟩

theorem BL{t E s by' m:Nat}{z:Value}{zc:Array Value}{a ix:Operand}{b off:Nat}{k:IntKind}{n:Nat}(ho:o.op= .indexAddr t a ix)[TD x.P t (.array m E)][TI x.P E s by' z zc](ha:ev ρ a=some (.pointer (some ⟨b,off,none⟩)))(hi:ev ρ ix=some (.int k (n:Int)))(h1:n<m):
    Yv x S ρ o (.pointer (some ⟨b,off+n*s,none⟩)):=DL ho ha hi (by omega) (by omega)

theorem lT{P:Program}{h:Hp}{t:TypeId}[SC P t]{cs:Array Value}{off:Nat}{u:Value}{β:Type}{f:Value→Sem β}{Q:β→ah→Prop}(hc:cs[off]? =some u):tr P h ((part t cs off).bind f) F Q=tr P h (f u) F Q:=by
  simp only[part,bind_eq,au,bind_assoc,II,Bool.false_eq_true,if_false,hc,bind_pure]
theorem ru{P:Program}{h:Hp}{t n:Nat}[AG P t n]{cs:Array Value}{off:Nat}{β:Type}{f:Value→Sem β}{Q:β→ah→Prop}:tr P h ((part t cs off).bind f) F Q=tr P h (f (.agg (cs.extract off (off+n)))) F Q:=by
  simp only[part,bind_eq,au,bind_assoc,Fv,if_true,o9,bind_pure]

theorem Zh{t f off ft:Nat}{a:Operand}{cs:Array Value}(ho:o.op= .field t a f)[i:FA x.P t f off ft][SC x.P ft](ha:ev ρ a=some (.agg cs))(hc:cs[off]? =some v):Yv x S ρ o v:=fun e he F hF h' hE=>by
  obtain⟨fs,fl,j,h1,h2,h3,h4,h5,h6⟩:=i.out
  have hu:TD x.P t (.struct fs):=⟨h1⟩
  subst h4
  simp only[execOp,ho,he a _ ha,Instr.field,asAgg,bind_eq,au,bind_assoc,bind_pure,aC,h2,h3,lT hc]
  exact⟨rfl,rfl⟩
theorem Wq{t f off ft n:Nat}{a:Operand}{cs vs:Array Value}(ho:o.op= .field t a f)[i:FA x.P t f off ft][AG x.P ft n](ha:ev ρ a=some (.agg cs))(hc:cs.extract off (off+n)=vs):Yv x S ρ o (.agg vs):=fun e he F hF h' hE=>by
  obtain⟨fs,fl,j,h1,h2,h3,h4,h5,h6⟩:=i.out
  have hu:TD x.P t (.struct fs):=⟨h1⟩
  subst h4
  simp only[execOp,ho,he a _ ha,Instr.field,asAgg,bind_eq,au,bind_assoc,bind_pure,aC,h2,h3,ru,hc]
  exact⟨rfl,rfl⟩
theorem Ti{t E s by' m:Nat}{z:Value}{zc:Array Value}{a ix:Operand}{cs:Array Value}{k:IntKind}{n:Int}(ho:o.op= .index t a ix)[TD x.P t (.array m E)][TI x.P E s by' z zc][SC x.P E](ha:ev ρ a=some (.agg cs))(hi:ev ρ ix=some (.int k n))(h0:0≤n)(h1:n<m)(hc:cs[n.toNat*s]? =some v):Yv x S ρ o v:=fun e he F hF h' hE=>by
  simp only[execOp,ho,he a _ ha,he ix _ hi,Instr.index,asIntOf,bind_eq,au,bind_assoc,bind_pure,aC,h0,h1,and_self,if_true,dH,lT hc]
  exact⟨rfl,rfl⟩
theorem Ws{t E s by' m n':Nat}{z:Value}{zc:Array Value}{a ix:Operand}{cs vs:Array Value}{k:IntKind}{n:Int}(ho:o.op= .index t a ix)[TD x.P t (.array m E)][TI x.P E s by' z zc][AG x.P E n'](ha:ev ρ a=some (.agg cs))(hi:ev ρ ix=some (.int k n))(h0:0≤n)(h1:n<m)(hc:cs.extract (n.toNat*s) (n.toNat*s+n')=vs):Yv x S ρ o (.agg vs):=fun e he F hF h' hE=>by
  simp only[execOp,ho,he a _ ha,he ix _ hi,Instr.index,asIntOf,bind_eq,au,bind_assoc,bind_pure,aC,h0,h1,and_self,if_true,dH,ru,hc]
  exact⟨rfl,rfl⟩

/-! #### numbers -/
theorem ny{op:BinOp}{t t':TypeId}{y z:Operand}{k k':IntKind}{a b:Int}{u:Value}(ho:o.op= .binOp op t y z t')(hy:ev ρ y=some (.int k a))(hz:ev ρ z=some (.int k' b))(h:binOp op t (.int k a) (.int k' b)= .pure u):Yv x S ρ o u:=fun e he F hF h' hE=>by
  have hg:eqGuard op t y z (.int k a) (.int k' b)= .pure ():=by
    unfold eqGuard
    split <;>rfl
  simp only[execOp,ho,he y _ hy,he z _ hz,hg,bind_eq,au,bind_assoc,bind_pure,h]
  exact⟨rfl,rfl⟩

theorem nC{n:Int}(h0: -9223372036854775808≤n)(h1:n≤9223372036854775807):IntKind.i64.wrap n=n:=IntWalk.i64_in n ⟨h0,h1⟩

theorem aaI{t t':TypeId}{y z:Operand}{a b:Int}(ho:o.op= .binOp .add t y z t')(hy:ev ρ y=some (.int .i64 a))(hz:ev ρ z=some (.int .i64 b))(h0: -9223372036854775808≤a+b)(h1:a+b≤9223372036854775807):Yv x S ρ o (.int .i64 (a+b)):=
  ny ho hy hz (by show Sem.pure _=_;rw[nC h0 h1])
theorem aaJ{t t':TypeId}{y z:Operand}{a b:Int}(ho:o.op= .binOp .sub t y z t')(hy:ev ρ y=some (.int .i64 a))(hz:ev ρ z=some (.int .i64 b))(h0: -9223372036854775808≤a-b)(h1:a-b≤9223372036854775807):Yv x S ρ o (.int .i64 (a-b)):=
  ny ho hy hz (by show Sem.pure _=_;rw[nC h0 h1])
theorem aBX{t t':TypeId}{y z:Operand}{a b:Int}(ho:o.op= .binOp .mul t y z t')(hy:ev ρ y=some (.int .i64 a))(hz:ev ρ z=some (.int .i64 b))(h0: -9223372036854775808≤a*b)(h1:a*b≤9223372036854775807):Yv x S ρ o (.int .i64 (a*b)):=
  ny ho hy hz (by show Sem.pure _=_;rw[nC h0 h1])
theorem MZ{t t':TypeId}{y z:Operand}{k:IntKind}{a b:Int}(ho:o.op= .binOp .add t y z t')(hy:ev ρ y=some (.int k a))(hz:ev ρ z=some (.int k b)):Yv x S ρ o (.int k (k.wrap (a+b))):=
  ny ho hy hz (by cases k <;>rfl)
theorem M_{t t':TypeId}{y z:Operand}{k:IntKind}{a b:Int}(ho:o.op= .binOp .sub t y z t')(hy:ev ρ y=some (.int k a))(hz:ev ρ z=some (.int k b)):Yv x S ρ o (.int k (k.wrap (a-b))):=
  ny ho hy hz (by cases k <;>rfl)
theorem Fz{t t':TypeId}{y z:Operand}{k:IntKind}{a b:Int}(ho:o.op= .binOp .mul t y z t')(hy:ev ρ y=some (.int k a))(hz:ev ρ z=some (.int k b)):Yv x S ρ o (.int k (k.wrap (a*b))):=
  ny ho hy hz (by cases k <;>rfl)
theorem fO{t t':TypeId}{y z:Operand}{k:IntKind}{a b:Int}(ho:o.op= .binOp .lss t y z t')(hy:ev ρ y=some (.int k a))(hz:ev ρ z=some (.int k b)):Yv x S ρ o (.bool (decide (a<b))):=
  ny ho hy hz (by cases k <;>rfl)
theorem Lr{t t':TypeId}{y z:Operand}{k:IntKind}{a b:Int}(ho:o.op= .binOp .leq t y z t')(hy:ev ρ y=some (.int k a))(hz:ev ρ z=some (.int k b)):Yv x S ρ o (.bool (decide (a≤b))):=
  ny ho hy hz (by cases k <;>rfl)
theorem rC{t t':TypeId}{y z:Operand}{k:IntKind}{a b:Int}(ho:o.op= .binOp .gtr t y z t')(hy:ev ρ y=some (.int k a))(hz:ev ρ z=some (.int k b)):Yv x S ρ o (.bool (decide (b<a))):=
  ny ho hy hz (by cases k <;>rfl)
theorem IJ{t t':TypeId}{y z:Operand}{k:IntKind}{a b:Int}(ho:o.op= .binOp .geq t y z t')(hy:ev ρ y=some (.int k a))(hz:ev ρ z=some (.int k b)):Yv x S ρ o (.bool (decide (b≤a))):=
  ny ho hy hz (by cases k <;>rfl)
theorem Ii(a b:Int):(a==b)=decide (a=b):=by by_cases h:a=b <;>simp[h]
theorem nD{t t':TypeId}{y z:Operand}{k:IntKind}{a b:Int}(ho:o.op= .binOp .eql t y z t')(hy:ev ρ y=some (.int k a))(hz:ev ρ z=some (.int k b)):Yv x S ρ o (.bool (decide (a=b))):=
  ny ho hy hz (by rw[←Ii];cases k <;>rfl)
theorem nG{t t':TypeId}{y z:Operand}{k:IntKind}{a b:Int}(ho:o.op= .binOp .neq t y z t')(hy:ev ρ y=some (.int k a))(hz:ev ρ z=some (.int k b)):Yv x S ρ o (.bool (decide (a≠b))):=
  ny ho hy hz (by
    have:decide (a≠b)=(a !=b):=by by_cases h:a=b <;>simp[h]
    rw[this];cases k <;>rfl)
theorem Wu{t t':TypeId}{y z:Operand}{k:IntKind}{a b:Int}(ho:o.op= .binOp .rem t y z t')(hy:ev ρ y=some (.int k a))(hz:ev ρ z=some (.int k b))(hb:b≠0):Yv x S ρ o (.int k (a.tmod b)):=
  ny ho hy hz (by simp only[binOp,Op.intDiv,if_neg hb];cases k <;>rfl)
theorem acH{t t':TypeId}{y z:Operand}{k:IntKind}{a b:Int}(ho:o.op= .binOp .quo t y z t')(hy:ev ρ y=some (.int k a))(hz:ev ρ z=some (.int k b))(hb:b≠0):Yv x S ρ o (.int k (k.wrap (a.tdiv b))):=
  ny ho hy hz (by simp only[binOp,Op.intDiv,if_neg hb];cases k <;>rfl)
theorem Wx{t t':TypeId}{y z:Operand}{k k':IntKind}{a b:Int}(ho:o.op= .binOp .shl t y z t')(hy:ev ρ y=some (.int k a))(hz:ev ρ z=some (.int k' b))(hb:0≤b):Yv x S ρ o (.int k (k.wrap (a*2 ^ (min b.toNat k.bits)))):=
  ny ho hy hz (by
                     have:¬b<0:=by omega
                     simp only[binOp,Op.shift,if_neg this];rfl)
theorem Gw{t t':TypeId}{y z:Operand}{k k':IntKind}{a b:Int}(ho:o.op= .binOp .shr t y z t')(hy:ev ρ y=some (.int k a))(hz:ev ρ z=some (.int k' b))(hb:0≤b):Yv x S ρ o (.int k (a.fdiv (2 ^ (min b.toNat k.bits)))):=
  ny ho hy hz (by
                     have:¬b<0:=by omega
                     simp only[binOp,Op.shift,if_neg this];rfl)
def bits(op:BinOp)(k:IntKind)(a b:Int):Int:=
  let x:=BitVec.ofInt k.bits a
  let y:=BitVec.ofInt k.bits b
  match op with
  | .and=>k.wrap (x&&&y).toNat
  | .or=>k.wrap (x||| y).toNat
  | .xor=>k.wrap (x ^^^ y).toNat
  | _=>k.wrap (x&&& ~~~y).toNat
theorem aaK{t t':TypeId}{y z:Operand}{k:IntKind}{a b:Int}(ho:o.op= .binOp .and t y z t')(hy:ev ρ y=some (.int k a))(hz:ev ρ z=some (.int k b)):Yv x S ρ o (.int k (bits .and k a b)):=ny ho hy hz (by cases k <;>rfl)
theorem acI{t t':TypeId}{y z:Operand}{k:IntKind}{a b:Int}(ho:o.op= .binOp .or t y z t')(hy:ev ρ y=some (.int k a))(hz:ev ρ z=some (.int k b)):Yv x S ρ o (.int k (bits .or k a b)):=ny ho hy hz (by cases k <;>rfl)
theorem Gx{t t':TypeId}{y z:Operand}{k:IntKind}{a b:Int}(ho:o.op= .binOp .xor t y z t')(hy:ev ρ y=some (.int k a))(hz:ev ρ z=some (.int k b)):Yv x S ρ o (.int k (bits .xor k a b)):=ny ho hy hz (by cases k <;>rfl)
theorem OL{t t':TypeId}{y z:Operand}{k:IntKind}{a b:Int}(ho:o.op= .binOp .andNot t y z t')(hy:ev ρ y=some (.int k a))(hz:ev ρ z=some (.int k b)):Yv x S ρ o (.int k (bits .andNot k a b)):=ny ho hy hz (by cases k <;>rfl)

theorem xU{t:TypeId}{y:Operand}{b:Bool}(ho:o.op= .unOp .not t y)(hy:ev ρ y=some (.bool b)):Yv x S ρ o (.bool (!b)):=fun e he F hF h' hE=>by
  simp only[execOp,ho,he y _ hy];exact⟨rfl,rfl⟩
theorem acJ{t:TypeId}{y:Operand}{n:Int}(ho:o.op= .unOp .neg t y)(hy:ev ρ y=some (.int .i64 n))(h0: -9223372036854775807≤n)(h1:n≤9223372036854775807):Yv x S ρ o (.int .i64 (-n)):=fun e he F hF h' hE=>by
  have:IntKind.i64.wrap (0-n)= -n:=by rw[nC (by omega) (by omega)];omega
  simp only[execOp,ho,he y _ hy,Op.unary,Op.intArith,this];exact⟨rfl,rfl⟩
theorem FC{t t':TypeId}{d:TypeDesc}{y:Operand}{k k':IntKind}{n:Int}(ho:o.op= .convert t t' y)[TD x.P t d][TD x.P t' (.int k')](hy:ev ρ y=some (.int k n)):Yv x S ρ o (.int k' (k'.wrap n)):=fun e he F hF h' hE=>by
  simp only[execOp,ho,he y _ hy,convert,Conv.intToInt,bind_eq,au,bind_assoc,bind_pure,aC]
  cases d <;>exact⟨rfl,rfl⟩

/-! #### interfaces, functions, tuples -/
theorem Tj{t:TypeId}{d:TypeDesc}{y:Operand}{u:Value}(ho:o.op= .makeInterface t y)[TD x.P t d](hd:∀ms,d≠ .interface ms)(hy:ev ρ y=some u):Yv x S ρ o (.iface t u):=fun e he F hF h' hE=>by
  simp only[execOp,ho,he y _ hy,Instr.makeInterface,bind_eq,au,bind_assoc,bind_pure,aC]
  cases d <;>first | exact⟨rfl,rfl⟩ | exact absurd rfl (hd _)
def evs(ρ:Env):List Operand→Option (List Value)
  | []=>some []
  | y::r=>match ev ρ y,evs ρ r with | some v,some vs=>some (v::vs) | _,_=>none
theorem lN{e:Operand→Value}(he:∀y v,ev ρ y=some v→e y=v):∀{l:List Operand} {vs:List Value},evs ρ l=some vs→l.map e=vs
  | [],vs,h=>by cases h;rfl
  | y::r,vs,h=>by
    unfold evs at h
    split at h
    · rename_i v vs' h1 h2;cases h;simp[he y v h1,lN he h2]
    · cases h
theorem y7{f:Go.Fn}{fi ca:List Operand}{vs us:List Value}(ho:o.op= .makeFunc f fi.toArray ca.toArray)(h1:evs ρ fi=some vs)(h2:evs ρ ca=some us):Yv x S ρ o (.func f vs.toArray us.toArray):=fun e he F hF h' hE=>by
  simp only[execOp,ho,Instr.makeFunc,List.map_toArray,lN he h1,lN he h2];exact⟨rfl,rfl⟩
theorem bD{y:Operand}{n:Nat}{vs:Array Value}(ho:o.op= .extract y n)(hy:ev ρ y=some (.tuple vs))(hv:vs[n]? =some v):Yv x S ρ o v:=fun e he F hF h' hE=>by
  simp only[execOp,ho,he y _ hy,Instr.extract,hv];exact⟨rfl,rfl⟩

/-! #### builtins -/
theorem dM{y:Operand}{t E:TypeId}{a:Option Addr}{n c:Nat}(ho:o.op= .call ⟨.builtin .len, #[y], #[t]⟩)[TD x.P t (.slice E)](hy:ev ρ y=some (.slice a n c)):Yv x S ρ o (.int .i64 n):=fun e he F hF h' hE=>by
  simp only[execOp,ho,resolve,invoke,builtin,Builtin.len_,List.map_toArray,List.map_cons,List.map_nil,he y _ hy,List.getElem?_toArray,List.getElem?_cons_zero,bind_eq,au,bind_assoc,bind_pure,aC]
  exact⟨rfl,rfl⟩
theorem acK{y:Operand}{t E:TypeId}{a:Option Addr}{n c:Nat}(ho:o.op= .call ⟨.builtin .cap, #[y], #[t]⟩)[TD x.P t (.slice E)](hy:ev ρ y=some (.slice a n c)):Yv x S ρ o (.int .i64 c):=fun e he F hF h' hE=>by
  simp only[execOp,ho,resolve,invoke,builtin,Builtin.cap_,List.map_toArray,List.map_cons,List.map_nil,he y _ hy,List.getElem?_toArray,List.getElem?_cons_zero,bind_eq,au,bind_assoc,bind_pure,aC]
  exact⟨rfl,rfl⟩
theorem Tm{y z:Operand}{ts:Array TypeId}{k:IntKind}{a b:Int}(ho:o.op= .call ⟨.builtin .min, #[y,z],ts⟩)(hy:ev ρ y=some (.int k a))(hz:ev ρ z=some (.int k b)):Yv x S ρ o (.int k (min a b)):=fun e he F hF h' hE=>by
  have:min a b=if b<a then b else a:=by split <;>omega
  rw[this]
  simp only[execOp,ho,resolve,invoke,builtin,Builtin.min_,List.map_toArray,List.map_cons,List.map_nil,he y _ hy,he z _ hz]
  exact⟨rfl,rfl⟩
theorem y8{y z:Operand}{ts:Array TypeId}{k:IntKind}{a b:Int}(ho:o.op= .call ⟨.builtin .max, #[y,z],ts⟩)(hy:ev ρ y=some (.int k a))(hz:ev ρ z=some (.int k b)):Yv x S ρ o (.int k (max a b)):=fun e he F hF h' hE=>by
  have:max a b=if b>a then b else a:=by split <;>omega
  rw[this]
  simp only[execOp,ho,resolve,invoke,builtin,Builtin.max_,List.map_toArray,List.map_cons,List.map_nil,he y _ hy,he z _ hz]
  exact⟨rfl,rfl⟩
end rules
end Go.aS

/- Laws of the operations that make memory, write it, or call. Conditions: none; over any program. -/
namespace Go.aS
inductive Seg(A:ah):ah→(ah→ah)→Prop
 | head {G:ah}:Seg A (A++G) (fun A'=>A'++G)
 | tail {y:Nat×Obj} {F:ah} {U:ah→ah} (h:Seg A F U):Seg A (y::F) (fun A'=>y::U A')
 | app {B:ah} {F:ah} {U:ah→ah} (h:Seg A F U):Seg A (B++F) (fun A'=>B++U A')
 | all:Seg A A (fun A'=>A')

theorem Seg.perm{A F:ah}{U:ah→ah}(h:Seg A F U):(A++U []).Perm F∧∀A',(U A').Perm (A'++U []):=by
 induction h with
 | head=>exact⟨by simp,fun A'=>by simp⟩
 | @tail y F U h ih=>exact⟨(List.perm_middle).trans (ih.1.cons y),fun A'=>((ih.2 A').cons y).trans List.perm_middle.symm⟩
 | @app B F U h ih=>
  have e:∀X:ah,(X++(B++U [])).Perm (B++(X++U [])):=fun X=>by
   rw[←List.append_assoc,←List.append_assoc]
   exact List.perm_append_comm.append_right _
  exact⟨(e A).trans (ih.1.append_left B),fun A'=>((ih.2 A').append_left B).trans (e A').symm⟩
 | all=>exact⟨by simp,fun A'=>by simp⟩

inductive At(b:Nat)(o:Obj):ah→(Obj→ah)→Prop
 | head {G:ah}:At b o ((b,o)::G) (fun o'=>(b,o')::G)
 | tail {y:Nat×Obj} {F:ah} {U:Obj→ah} (h:At b o F U):At b o (y::F) (fun o'=>y::U o')
 | app {B:ah} {F:ah} {U:Obj→ah} (h:At b o F U):At b o (B++F) (fun o'=>B++U o')

theorem At.split{b:Nat}{o:Obj}{F:ah}{U:Obj→ah}(h:At b o F U):∃F1 F2,F=F1++(b,o)::F2∧∀o',U o'=F1++(b,o')::F2:=by
 induction h with
 | @head G=>exact⟨[],G,rfl,fun _=>rfl⟩
 | @tail y F U h ih=>obtain⟨F1,F2,h1,h2⟩:=ih;exact⟨y::F1,F2,by rw[h1];rfl,fun o'=>by show y::U o'=_;rw[h2 o'];rfl⟩
 | @app B F U h ih=>obtain⟨F1,F2,h1,h2⟩:=ih;exact⟨B++F1,F2,by rw[h1,List.append_assoc],fun o'=>by show B++U o'=_;rw[h2 o',List.append_assoc]⟩

def Ef(x:Cx)(ρ:Env)(o:Oper)(F:ah)(R:Value→ah→Prop):Prop:=
 ∀e:Operand→Value,(∀y v,ev ρ y=some v→e y=v)→Dx x o e F fun v F'=>∃Lp,Lp.Perm F'∧R v Lp

section rules
variable{x:Cx}{Q:Post}{ρ:Env}{ds:List Deferred}{F:ah}{ops:Array Oper}{L:ah}{i:Nat}{rest:List Nat}{o:Oper}{v:Value}{R:Value→ah→Prop}
theorem Ops.eff(H:Ef x ρ o F fun v F'=>Ops x ops rest Q (put ρ o.dst v) ds F')(ho:ops[i]? =some o)(hw:want ops ρ o)(hd:d_ o.dst x.n=true)(hn:cu o.op=true):Ops x ops (i::rest) Q ρ ds F:=
 Ops.op ho hw hd (gI hn) fun e he=>(H e he).mono fun v F' ⟨Lp,p,h⟩=>Ops.perm p h

theorem Any.eff{fuel listed:Nat}(H:Ef x ρ o F fun v F'=>(lastT ops i=true∨Keeps L F')∧Any x ops L fuel (listed||| 2 ^ i) Q (put ρ o.dst v) ds F')(hr:qx ops listed=[i])(hi:ops[i]? =some o)(hw:dR ops (look ρ) o true)(hd:d_ o.dst x.n=true)(hn:cu o.op=true):
  Any x ops L (fuel+1) listed Q ρ ds F:=
 Any.one hr hi hw hd (gI hn) fun e he=>(H e he).mono fun v F' ⟨Lp,p,h1,h2⟩=>⟨h1.imp id (Keeps.perm p),Any.perm p h2⟩

theorem Any.WB{fuel listed i j:Nat}{o o':Oper}(hr:qx ops listed=[i,j])(hi:ops[i]? =some o)(hj:ops[j]? =some o')(hw:dR ops (look ρ) o true)(hw':dR ops (look ρ) o' true)(hd:d_ o.dst x.n=true)(hd':d_ o'.dst x.n=true)(hn:cu o.op=true)(hn':cu o'.op=true)
  (H:Ef x ρ o F fun v F'=>(lastT ops i=true∨Keeps L F')∧Any x ops L fuel (listed||| 2 ^ i) Q (put ρ o.dst v) ds F')
  (H':Ef x ρ o' F fun v F'=>(lastT ops j=true∨Keeps L F')∧Any x ops L fuel (listed||| 2 ^ j) Q (put ρ o'.dst v) ds F'):Any x ops L (fuel+1) listed Q ρ ds F:=
 Any.two hr (QO.op hi hw hd (gI hn) fun e he=>(H e he).mono fun v F' ⟨Lp,p,h1,h2⟩=>⟨h1.imp id (Keeps.perm p),Any.perm p h2⟩)
  (QO.op hj hw' hd' (gI hn') fun e he=>(H' e he).mono fun v F' ⟨Lp,p,h1,h2⟩=>⟨h1.imp id (Keeps.perm p),Any.perm p h2⟩)

theorem Ef.xW(H:∀e:Operand→Value,(∀y v,ev ρ y=some v→e y=v)→∀h',Ext x.h h'→tr x.P h' (execOp e o) F fun nx F'=>∃v,(nx= .value v∨nx= .skip∧v=undef)∧R v F'):Ef x ρ o F R:=fun e he=>
 ⟨F,[],by simp,fun h' hE _=>lM (H e he h' hE) fun nx F' ⟨v,h1,h2⟩=>by
  rcases h1 with rfl | ⟨rfl,rfl⟩ <;>exact⟨F',by simp,h2⟩⟩

theorem Ext.none{h h':Hp}(e:Ext h h'){b:Nat}(hb:h' b=none):h b=none:=by
 cases hh:h b with
 | none=>rfl
 | some o=>rw[e.1 b o hh]at hb;cases hb

theorem wI{P:Program}{h:Hp}{β:Type}{ob:Obj}{f:Nat→Sem β}{Q:β→ah→Prop}(H:∀r,h r=none→(∀o,(r,o)∉F)→tr P h (f r) ((r,ob)::F) Q)(hn:ob.isChan=false:=by rfl):tr P h ((newObj ob).bind f) F Q:=⟨fun e=>(by rw[hn]at e;cases e),H⟩

theorem wJ{t s b:Nat}{z:Value}{zc:Array Value}(ho:o.op= .alloc t)[TI x.P t s b z zc](H:∀β,x.h β=none→(∀o,(β,o)∉F)→R (.pointer (some ⟨β,0,none⟩)) ((β,.cells zc t (0,0))::F)):Ef x ρ o F R:=
 Ef.xW fun e he h' hE=>by
  obtain⟨j,_,_,_,_,hz⟩:=TI.out (inferInstance:TI x.P t s b z zc)
  simp only[execOp,ho,Instr.alloc,newVar,newRow,bind_eq,au,bind_assoc,bind_pure,fG,hz]
  exact wI fun r h1 h2=>⟨_,.inl rfl,H r (hE.none h1) h2⟩

theorem aaL{t:TypeId}{y:Operand}{u:Value}{cs:Array Value}(ho:o.op= .box t y)(hy:ev ρ y=some u)(hc:u.cells=cs)(H:∀β,x.h β=none→(∀o,(β,o)∉F)→R (.pointer (some ⟨β,0,none⟩)) ((β,.cells cs t (0,0))::F)):Ef x ρ o F R:=
 Ef.xW fun e he h' hE=>by
  simp only[execOp,ho,he y _ hy,Instr.box,newVar,newRow,bind_eq,au,bind_assoc,bind_pure,hc]
  exact wI fun r h1 h2=>⟨_,.inl rfl,H r (hE.none h1) h2⟩
theorem OM{P:Program}{h:Hp}{b off:Nat}{c:Array Value}{E:TypeId}{U:Obj→ah}{u:Value}{Q:Unit→ah→Prop}(h1:one u=true)(hl:At b (.cells c E (0,0)) F U)(hc:off<c.size)(H:Q () (U (.cells (c.setIfInBounds off u) E (0,0)))):tr P h (store ⟨b,off,none⟩ u) F Q:=by
 obtain⟨F1,F2,e1,e2⟩:=hl.split
 refine⟨rfl,rfl,h1,c,E,0,0,F1,F2,e1,hc,by simp,?_⟩
 rw[e2]at H
 exact H

theorem OO{u:Value}(h:one u=true):u.cells= #[u]:=by cases u <;>first | rfl | cases h

theorem Tn{t s b':Nat}{z:Value}{zc:Array Value}{a y:Operand}{b off:Nat}{c:Array Value}{E:TypeId}{U:Obj→ah}{u:Value}(ho:o.op= .store t a y)[TI x.P t 1 b' z zc](ha:ev ρ a=some (.pointer (some ⟨b,off,none⟩)))(hy:ev ρ y=some u)(h1:one u=true)(hl:At b (.cells c E (0,0)) F U)(hc:off<c.size)
  (H:R undef (U (.cells (c.setIfInBounds off u) E (0,0)))):Ef x ρ o F R:=
 Ef.xW fun e he h' hE=>by
  simp only[execOp,ho,he a _ ha,he y _ hy,Instr.storeAt,Instr.sureAddr,storeVar,bind_eq,au,bind_assoc,bind_pure,dH,OO h1,List.size_toArray,List.length_cons,List.length_nil,Nat.zero_add,ne_eq,not_true_eq_false,if_false,storeCells,jE,Nat.add_zero]
  exact bJ (OM h1 hl hc ⟨_,.inr ⟨rfl,rfl⟩,H⟩)

def jv(c:Array Value)(off:Nat):List Value→Array Value
 | []=>c
 | u::r=>jv (c.setIfInBounds off u) (off+1) r
def ones:List Value→Bool
 | []=>true
 | u::r=>one u&&ones r

theorem y9:∀(vs:List Value) (c:Array Value) (off:Nat),(jv c off vs).size=c.size
 | [],c,off=>rfl
 | u::r,c,off=>by simp[jv,y9 r]

theorem IK:∀(vs:List Value) (c:Array Value) (off j:Nat),off+vs.length≤c.size→(jv c off vs)[j]? =if off≤j∧j<off+vs.length then vs[j-off]? else c[j]?
 | [],c,off,j,h=>by
  have h1:¬(off≤j∧j<off+0):=by omega
  simp only[jv,List.length_nil,h1,if_false]
 | u::r,c,off,j,h=>by
  simp only[List.length_cons]at h⊢
  rw[jv,IK r _ _ _ (by simp;omega),Array.getElem?_setIfInBounds]
  by_cases h1:off+1≤j∧j<off+1+r.length
  ·have h2:off≤j∧j<off+(r.length+1):=by omega
   simp only[h1,h2,and_self,if_true]
   have:j-off=(j- (off+1))+1:=by omega
   rw[this,List.getElem?_cons_succ]
  ·simp only[h1,if_false]
   by_cases h3:off=j
   ·subst h3
    have h2:off≤off∧off<off+(r.length+1):=by omega
    have h4:off<c.size:=by omega
    simp[h2,h4]
   ·have h2:¬(off≤j∧j<off+(r.length+1)):=by omega
    simp only[h2,if_false,h3]

theorem IL{c:Array Value}{vs:List Value}(h:vs.length=c.size):jv c 0 vs=vs.toArray:=by
 apply Array.ext_getElem?
 intro j
 rw[IK _ _ _ _ (by omega)]
 by_cases hj:j<vs.length
 ·simp[hj]
 ·have h1:¬(0≤j∧j<0+vs.length):=by omega
  rw[if_neg h1,Array.getElem?_eq_none (by omega),List.getElem?_toArray,List.getElem?_eq_none (by omega)]

theorem kV{P:Program}{h:Hp}{b off:Nat}{E:TypeId}:∀(vs:List Value) (i:Nat) (c:Array Value) {F:ah} {U:Obj→ah} {Q:Unit→ah→Prop},ones vs=true→At b (.cells c E (0,0)) F U→off+i+vs.length≤c.size→Q () (U (.cells (jv c (off+i) vs) E (0,0)))→tr P h (storeCells ⟨b,off,none⟩ vs i) F Q
 | [],i,c,F,U,Q,_,hl,_,H=>by
  obtain⟨F1,F2,e1,e2⟩:=hl.split
  rw[jv,e2,←e1]at H
  exact H
 | u::r,i,c,F,U,Q,hu,hl,hc,H=>by
  simp only[ones,Bool.and_eq_true]at hu
  simp only[List.length_cons]at hc
  obtain⟨F1,F2,e1,e2⟩:=hl.split
  simp only[storeCells,jE,bind_eq]
  refine bJ (OM hu.1 hl (by omega) ?_)
  have hl':At b (.cells (c.setIfInBounds (off+i) u) E (0,0)) (U (.cells (c.setIfInBounds (off+i) u) E (0,0))) (fun o'=>F1++(b,o')::F2):=by
   rw[e2];exact .app .head
  refine kV r (i+1) _ hu.2 hl' (by simp;omega) ?_
  rw[e2]at H
  exact H

theorem OQ{t n:Nat}{a y:Operand}{b off:Nat}{c vs:Array Value}{E:TypeId}{U:Obj→ah}(ho:o.op= .store t a y)[AG x.P t n](ha:ev ρ a=some (.pointer (some ⟨b,off,none⟩)))(hy:ev ρ y=some (.agg vs))(hn:vs.size=n)(h1:ones vs.toList=true)(hl:At b (.cells c E (0,0)) F U)(hc:off+n≤c.size)
  (H:R undef (U (.cells (jv c off vs.toList) E (0,0)))):Ef x ρ o F R:=
 Ef.xW fun e he h' hE=>by
  have hs:(Value.agg vs).cells=vs:=rfl
  simp only[execOp,ho,he a _ ha,he y _ hy,Instr.storeAt,Instr.sureAddr,storeVar,bind_eq,au,bind_assoc,bind_pure,o9,hs,hn,ne_eq,not_true_eq_false,if_false]
  refine bJ (kV vs.toList 0 c h1 hl (by simp;omega) ⟨_,.inr ⟨rfl,rfl⟩,by simpa using H⟩)
theorem OT{t n:Nat}{a y:Operand}{b:Nat}{c vs:Array Value}{E:TypeId}{U:Obj→ah}(ho:o.op= .store t a y)[AG x.P t n](ha:ev ρ a=some (.pointer (some ⟨b,0,none⟩)))(hy:ev ρ y=some (.agg vs))(hn:vs.size=n)(h1:ones vs.toList=true)(hl:At b (.cells c E (0,0)) F U)(hc:c.size=n)
  (H:R undef (U (.cells vs E (0,0)))):Ef x ρ o F R:=
 OQ ho ha hy hn h1 hl (by omega) (by rw[IL (by simp;omega)];simpa using H)

/-! #### built values -/
def placesOf(P:Program):TypeDesc→Option (List (Nat×Option Nat))
 | .struct fs=>some (fs.toList.map fun fl=>(fl.offset,(P.info? fl.type).map (·.size)))
 | _=>none
class BP(P:Program)(t:TypeId)(pl:outParam (List (Nat×Nat))):Prop where
 eq:(P.underlying t).bind (placesOf P)=some (pl.map fun p=>(p.1,some p.2))
theorem Ls{P:Program}{h:Hp}{F:ah}:∀{fs:List Field} {pl:List (Nat×Nat)} {Q:List (Nat×Nat)→ah→Prop},fs.map (fun fl=>(fl.offset,(P.info? fl.type).map (·.size)))=pl.map (fun p=>(p.1,some p.2))→Q pl F→tr P h (fs.mapM (m:=Sem) fun f=>do pure (f.offset,←sizeOf f.type)) F Q
 | [],pl,Q,hp,H=>by
  have:pl=[]:=by cases pl <;>simp_all
  subst this
  exact H
 | f::fs,[],Q,hp,H=>by simp at hp
 | f::fs,p::pl,Q,hp,H=>by
  simp only[List.map_cons,List.cons.injEq,Prod.mk.injEq]at hp
  obtain⟨⟨h1,h2⟩,h3⟩:=hp
  obtain⟨j,h4,h5⟩:=Option.map_eq_some_iff.1 h2
  have ih:=Ls (P:=P) (h:=h) (F:=F) (Q:=fun l F'=>Q (p::l) F') h3 H
  rw[List.mapM_cons]
  have e1:∀{β:Type} (g:Nat×Nat→Sem β) (Q':β→ah→Prop),tr P h (g p) F Q'→tr P h ((do pure (f.offset,←sizeOf f.type):Sem (Nat×Nat)).bind g) F Q':=by
   intro β g Q' hg
   simp only[sizeOf,bind_eq,au,bind_assoc,bind_pure,dJ h4,h1,h5]
   exact hg
  exact e1 _ _ (bJ ih)
theorem BP.out{P:Program}{t:TypeId}{pl:List (Nat×Nat)}(i:BP P t pl):∃fs,P.underlying t=some (.struct fs)∧∀(h:Hp) (F:ah) (Q:Array (Nat×Nat)→ah→Prop),Q pl.toArray F→tr P h (fs.mapM fun f=>do pure (f.offset,←sizeOf f.type)) F Q:=by
 obtain⟨d,h1,h2⟩:=Option.bind_eq_some_iff.1 i.eq
 cases d with
 | struct fs=>
  refine⟨fs,h1,fun h F Q H=>?_⟩
  have e:fs=fs.toList.toArray:=by simp
  rw[e,List.mapM_toArray]
  simp only[map_eq_pure_bind,bind_eq,au]
  simp only[placesOf,Option.some.injEq]at h2
  exact bJ (Ls h2 H)
 | _=>cases h2

theorem eH{t s b:Nat}{z:Value}{zc:Array Value}{pl:List (Nat×Nat)}{parts:List (Nat×Operand)}{vs:List Value}{cs:Array Value}{S:ah→Prop}(ho:o.op= .build t parts.toArray)[bp:BP x.P t pl][TI x.P t s b z zc](hv:evs ρ (parts.map (·.2))=some vs)
  (hf:Instr.fill (fun i:Nat=>pl[i]?) zc ((parts.map (·.1)).zip vs)=some cs):Yv x S ρ o (.agg cs):=fun e he F hF h' hE=>by
 obtain⟨fs,hu,hm⟩:=BP.out bp
 have:TD x.P t (.struct fs):=⟨hu⟩
 obtain⟨j,_,_,_,_,hz⟩:=TI.out (inferInstance:TI x.P t s b z zc)
 have hp:parts.map (fun(p:Nat×Operand)=>(p.1,e p.2))=(parts.map (·.1)).zip vs:=by
  rw[←lN he hv,List.map_map]
  clear hf hv ho
  induction parts with
  | nil=>rfl
  | cons p r ih=>simp[ih]
 simp only[execOp,ho,Instr.build,List.map_toArray,bind_eq,au,bind_assoc,bind_pure,fG,aC,hz]
 refine bJ (hm h' F _ ?_)
 have e1:(fun i:Nat=>(pl.toArray)[i]?)=fun i:Nat=>pl[i]? :=by funext i;simp
 have hp':(parts.map fun x=>match x with | (i,y)=>(i,e y))=(parts.map (·.1)).zip vs:=hp
 simp only[hp',e1,hf]
 exact⟨rfl,rfl⟩

theorem DN{t E s b len:Nat}{z:Value}{zc:Array Value}{parts:List (Nat×Operand)}{vs:List Value}{cs:Array Value}(ho:o.op= .buildSlice t len parts.toArray)[TD x.P t (.slice E)][TI x.P E s b z zc](hv:evs ρ (parts.map (·.2))=some vs)(hls:0<len*s)(hl:len*s≤2 ^ 24)
  (hf:Instr.fill (fun i=>some (i*s,s)) ((Array.range (len*s)).map (zc[· % zc.size]!)) ((parts.map (·.1)).zip vs)=some cs)
  (H:∀β,x.h β=none→(∀o,(β,o)∉F)→R (.slice (some ⟨β,0,none⟩) len len) ((β,.cells cs E (0,0))::F)):Ef x ρ o F R:=
 Ef.xW fun e he h' hE=>by
  obtain⟨j,_,_,_,_,hz⟩:=TI.out (inferInstance:TI x.P E s b z zc)
  have hp:(parts.map fun x=>match x with | (i,y)=>(i,e y))=(parts.map (·.1)).zip vs:=by
   rw[←lN he hv,List.map_map]
   clear hf hv ho
   induction parts with
   | nil=>rfl
   | cons p r ih=>simp[ih]
  have h1:¬len*s>2 ^ 24:=by omega
  have h2:¬len*s=0:=by omega
  simp only[execOp,ho,Instr.buildSlice,newRow,List.map_toArray,bind_eq,au,bind_assoc,bind_pure,fG,aC,dH,hz,if_neg h1,if_neg h2,hp,hf]
  exact wI fun r h1 h2=>⟨_,.inl rfl,H r (hE.none h1) h2⟩
theorem Kq{t E s b:Nat}{z:Value}{zc:Array Value}(ho:o.op= .buildSlice t 0 #[])[TD x.P t (.slice E)][TI x.P E s b z zc]
  (H:∀β,x.h β=none→(∀o,(β,o)∉F)→R (.slice (some ⟨β,0,none⟩) 0 0) ((β,.cells #[] E (0,0))::F)):Ef x ρ o F R:=
 Ef.xW fun e he h' hE=>by
  have h1:¬0*s>2 ^ 24:=by omega
  have h2:0*s=0:=by omega
  simp only[execOp,ho,Instr.buildSlice,newRow,bind_eq,au,bind_assoc,bind_pure,aC,dH,if_neg h1,if_pos h2,Array.map_empty,Instr.fill]
  refine wI fun r h1 h2=>⟨_,.inl rfl,?_⟩
  have e:(Array.range (0*s)).map ((#[]:Array Value)[· % (#[]:Array Value).size]!)= #[]:=by simp
  rw[e]
  exact H r (hE.none h1) h2

end rules
end Go.aS

/- Calls, results, append, and loops over functions. Conditions: none; over any program. -/
namespace Go.aS
section calls
variable{x:Cx}{ρ:Env}{F:ah}{o:Oper}{R:Value→ah→Prop}
theorem Gy{P:Program}{main:Side}{h:Hp}{f:FuncId}[FB P f]{args:Array Value}{R:Value→ah→Prop}(H:dV P main f args h F R):tr P h (callFunc f args) F (ni P main h R):=by
 obtain⟨fn,h1,h2,h3⟩:=FB.out (inferInstance:FB P f)
 simp only[callFunc,bind_eq,au,l7,h1,h2,h3,Bool.false_eq_true,if_false]
 exact H

theorem QZ{f:FuncId}{args:List Operand}{ts:Array TypeId}{vs:List Value}{A:ah}{U:ah→ah}{R':Value→ah→Prop}(ho:o.op= .call ⟨.value (.func f),args.toArray,ts⟩)[FB x.P f](hv:evs ρ args=some vs)(hs:Seg A F U)
  (H:∀h',Ext x.h h'→fF (U []) h'→dV x.P x.main f vs.toArray h' A R') (K:∀v A',R' v A'→R v (U A')):Ef x ρ o F R:=fun e he=>
 ⟨A,U [],hs.perm.1,fun h' e1 e2=>by
  have e3:e (.func f)= .func (.func f) #[] #[]:=he _ _ rfl
  simp only[execOp,ho,resolve,Deferred.ofValue,e3,bind_eq,au,bind_pure,invoke,List.map_toArray,lN he hv,List.append_toArray,List.nil_append,List.append_nil]
  exact Gy (dV.mono (H h' e1 e2) fun v A' r=>⟨U A',hs.perm.2 A',K v A' r⟩)⟩

theorem lQ{f:FuncId}{args:List Operand}{ts:Array TypeId}{vs:List Value}{R':Value→ah→Prop}(ho:o.op= .call ⟨.value (.func f),args.toArray,ts⟩)[FB x.P f](hv:evs ρ args=some vs)
  (H:∀h',Ext x.h h'→fF F h'→dV x.P x.main f vs.toArray h' [] R') (K:∀v A',R' v A'→R v (A'++F)):Ef x ρ o F R:=
 QZ ho hv (Seg.head (A:=[]) (G:=F)) H K

def gZ(P:Program)(main:Side)(fv:Value)(args:List Value)(h:Hp)(F:ah)(R:Value→ah→Prop):Prop:=
 ∃fn fi ca,fv= .func fn fi ca∧tr P h (invoke (.fn fn ca) (fi++args.toArray)) F (ni P main h R)

theorem gZ.mono{P:Program}{main:Side}{fv:Value}{args:List Value}{h:Hp}{R R':Value→ah→Prop}(H:gZ P main fv args h F R)(hr:∀v F,R v F→R' v F):gZ P main fv args h F R':=by
 obtain⟨fn,fi,ca,h1,h2⟩:=H
 exact⟨fn,fi,ca,h1,lM h2 fun _ _ y=>y.mono hr⟩

theorem gZ.zh{P:Program}{main:Side}{f:FuncId}[FB P f]{fi ca:List Value}{args:List Value}{h:Hp}{R:Value→ah→Prop}(H:dV P main f (fi++args++ca).toArray h F R):gZ P main (.func (.func f) fi.toArray ca.toArray) args h F R:=by
 refine⟨_,_,_,rfl,?_⟩
 simp only[invoke,List.append_toArray]
 exact Gy H

theorem tJ{y:Operand}{fv:Value}{args:List Operand}{ts:Array TypeId}{vs:List Value}{A:ah}{U:ah→ah}{R':Value→ah→Prop}(ho:o.op= .call ⟨.value y,args.toArray,ts⟩)(hy:ev ρ y=some fv)(hv:evs ρ args=some vs)(hs:Seg A F U)
  (H:∀h',Ext x.h h'→fF (U []) h'→gZ x.P x.main fv vs h' A R') (K:∀v A',R' v A'→R v (U A')):Ef x ρ o F R:=fun e he=>
 ⟨A,U [],hs.perm.1,fun h' e1 e2=>by
  obtain⟨fn,fi,ca,rfl,H'⟩:=H h' e1 e2
  simp only[execOp,ho,resolve,Deferred.ofValue,he y _ hy,bind_eq,au,bind_pure,List.map_toArray,lN he hv]
  exact lM H' fun _ _ z=>z.mono fun v A' r=>⟨U A',hs.perm.2 A',K v A' r⟩⟩

class MV(P:Program)(t:TypeId)(name:String)(f:outParam FuncId):Prop where
 out:∀(h:Hp) (F:ah) (v:Value) (Q:FuncId×Value→ah→Prop),Q (f,v) F→tr P h (method (P.types.size+Made.depth) t v name) F Q

end calls
/-! ### Results -/
def rD(P:Program)(h:Hp)(F:ah):List ResultVar→Env→List Value→Prop
 | [],_,vs=>vs=[]
 | .tmp t::r,ρ,vs=>∃v vs',vs=v::vs'∧look ρ t=some v∧rD P h F r ρ vs'
 | .cell a t::r,ρ,vs=>∃v vs' b off c E fz,vs=v::vs'∧look ρ a=some (.pointer (some ⟨b,off,none⟩))∧Look h F b (.cells c E fz)∧
   ((SC P t∧c[off]? =some v)∨(∃n,AG P t n∧off+n≤c.size∧v= .agg (c.extract off (off+n))))∧rD P h F r ρ vs'

def pack:List Value→Value
 | [v]=>v
 | vs=>.tuple vs.toArray

theorem uw{P:Program}{h:Hp}{F:ah}{t:TypeId}[SC P t]{b off:Nat}{c:Array Value}{E:TypeId}{fz:Nat×Nat}{u:Value}{Q:Value→ah→Prop}(hl:Look h F b (.cells c E fz))(hc:c[off]? =some u)(H:Q u F):tr P h (loadVar t ⟨b,off,none⟩) F Q:=by
 simp only[loadVar,bind_eq,au,II,Bool.false_eq_true,if_false]
 exact MX hl hc H
theorem BM{P:Program}{h:Hp}{F:ah}{t n:Nat}[AG P t n]{b off:Nat}{c:Array Value}{E:TypeId}{fz:Nat×Nat}{Q:Value→ah→Prop}(hl:Look h F b (.cells c E fz))(hn:off+n≤c.size)(H:Q (.agg (c.extract off (off+n))) F):tr P h (loadVar t ⟨b,off,none⟩) F Q:=by
 simp only[loadVar,bind_eq,au,Fv,if_true,o9,loadCells]
 refine bJ (gX hl n 0 #[] (by omega) ?_)
 simpa[tr]using H

def rd(tmps:Array Value):ResultVar→Sem Value
 | .tmp t=>.pure (tmps.getD t undef)
 | .cell a t=>(asAddr (tmps.getD a undef)).bind fun p=>loadVar t p
def Tq(vs:Array Value):Value:=if h:vs.size=1 then vs[0]else .tuple vs

theorem IQ(fn:Func)(tmps:Array Value):results fn tmps=(fn.results.mapM (m:=Sem) (rd tmps)).bind fun vs=>.pure (Tq vs):=by
 unfold results
 have:(fun x=>match x with | ResultVar.tmp t=>pure (tmps.getD t undef) | ResultVar.cell a t=>do let p←asAddr (tmps.getD a undef);loadVar t p)=rd tmps:=by
  funext r;cases r <;>rfl
 rw[←this]
 rfl

theorem Na{P:Program}{h:Hp}{F:ah}{ρ:Env}{tmps:Array Value}(he:dQ ρ tmps):∀{rs:List ResultVar} {vs:List Value} {Q:List Value→ah→Prop},rD P h F rs ρ vs→Q vs F→tr P h (rs.mapM (m:=Sem) (rd tmps)) F Q
 | [],vs,Q,h1,h2=>by simp only[rD]at h1;subst h1;exact h2
 | .tmp t::rs,vs,Q,h1,h2=>by
  obtain⟨v,vs',rfl,h3,h4⟩:=h1
  have e1:tmps.getD t undef=v:=by simp[he t v h3]
  simp only[List.mapM_cons,bind_eq,rd,e1,bind_pure]
  exact bJ (Na he h4 (by simpa[tr,au]using h2))
 | .cell a t::rs,vs,Q,h1,h2=>by
  obtain⟨v,vs',b,off,c,E,fz,rfl,h3,h5,h6,h4⟩:=h1
  have e1:tmps.getD a undef= .pointer (some ⟨b,off,none⟩):=by simp[he a _ h3]
  simp only[List.mapM_cons,bind_eq,rd,e1,asAddr,au,bind_pure]
  refine bJ ?_
  rcases h6 with⟨i1,i2⟩ | ⟨n,i1,i2,rfl⟩
  ·exact uw h5 i2 (bJ (Na he h4 (by simpa[tr]using h2)))
  ·exact BM h5 i2 (bJ (Na he h4 (by simpa[tr]using h2)))

theorem OU(vs:List Value):Tq vs.toArray=pack vs:=by
 match vs with
 | []=>rfl
 | [v]=>rfl
 | u::v::r=>
  have:¬((u::v::r).toArray.size=1):=by simp
  simp only[Tq,this,dif_neg,not_false_eq_true]
  rfl

theorem Q5{P:Program}{h:Hp}{F:ah}{fn:Func}{rs:List ResultVar}{ρ:Env}{vs:List Value}{R:Value→ah→Prop}(hr:fn.results=rs.toArray)(H:rD P h F rs ρ vs)(hR:R (pack vs) F):∀tmps,dQ ρ tmps→tr P h (results fn tmps) F R:=by
 intro tmps he
 rw[IQ,hr,List.mapM_toArray]
 simp only[map_eq_pure_bind,bind_eq,au,bind_assoc,bind_pure]
 refine bJ (Na he H ?_)
 rw[OU]
 exact hR

theorem OV{P:Program}{main:Side}{fn:Func}{h:Hp}{R:Value→ah→Prop}{e:Exit}{ρ:Env}{F:ah}(he:e= .ret∨e= .normal){rs:List ResultVar}(hr:fn.results=rs.toArray){vs:List Value}(H:rD P h F rs ρ vs)(hR:R (pack vs) F):leave P main fn h R e ρ [] F:=
 ⟨he,Q5 hr H hR⟩

end Go.aS

/- The laws with their small premises filled in by themselves. Conditions: none; over any program. -/
namespace Go.aS
def cO:List Oper→Nat→Option Oper
 | [],_=>none
 | o::_,0=>some o
 | _::l,i+1=>cO l i
theorem AO:∀(l:List Oper) (i:Nat),cO l i=l[i]?
 | [],i=>by simp[cO]
 | o::l,0=>rfl
 | o::l,i+1=>by simp[cO,AO l i]
theorem aU{ops:Array Oper}{i:Nat}{o:Oper}(h:cO ops.toList i=some o):ops[i]? =some o:=by
 rw[AO]at h
 simpa using h

class MO(P:Program):Prop where
 out:P.follows .mixedOrders=true

section rules
variable{x:Cx}{Q:Post}{ρ:Env}{ds:List Deferred}{F:ah}{ops:Array Oper}{L:ah}{i:Nat}{rest:List Nat}{o:Oper}{v:Value}{R:Value→ah→Prop}{d:Tmp}{op:Op}{ty:TypeId}{pos:String}{bK:Array Edge}{g:Option (Nat×Bool)}{K:Env→List Deferred→ah→Prop}
theorem aA(H:K ρ ds F):thn K Q .normal ρ ds F:=H
theorem bP{id:Nat}(H:Q (.exit id) ρ ds F):thn K Q (.exit id) ρ ds F:=H
theorem aY(H:Q .ret ρ ds F):thn K Q .ret ρ ds F:=H
theorem WC{l:Nat}(H:Q (.goto l) ρ ds F):thn K Q (.goto l) ρ ds F:=H
theorem dI{id:Nat}(H:Q .normal ρ ds F):blk id Q .normal ρ ds F:=H
theorem cZ{id:Nat}(H:Q .ret ρ ds F):blk id Q .ret ρ ds F:=H
theorem aaM{id l:Nat}(H:Q (.goto l) ρ ds F):blk id Q (.goto l) ρ ds F:=H
theorem gG{id id':Nat}(H:Q .normal ρ ds F)(h:Nat.beq id' id=true:=by rfl):blk id Q (.exit id') ρ ds F:=by simp only[blk,h,cond_true];exact H
theorem Tt{id id':Nat}(H:Q (.exit id') ρ ds F)(h:Nat.beq id' id=false:=by rfl):blk id Q (.exit id') ρ ds F:=by simp only[blk,h,cond_false];exact H

theorem W.dW{c:Operand}{y z:Code}(H:W x y Q ρ ds F)(h:ev ρ c=some (.bool true):=by rfl):W x (.cond c y z) Q ρ ds F:=W.cond h (fun _=>H) (fun e=>by cases e)
theorem W.bZ{c:Operand}{y z:Code}(H:W x z Q ρ ds F)(h:ev ρ c=some (.bool false):=by rfl):W x (.cond c y z) Q ρ ds F:=W.cond h (fun e=>by cases e) (fun _=>H)

theorem qP{o:Oper}(h:o.guard=none):want ops ρ o:=by simp[want,h]
theorem ak{o:Oper}{j d:Nat}{w:Bool}(h:o.guard=some (j,w))(hj:(ops[j]?).bind (·.dst)=some d)(hd:look ρ d=some (.bool w)):want ops ρ o:=by simp only[want,h];exact⟨d,hj,hd⟩
theorem b_{o:Oper}{j d:Nat}{w v u:Bool}(h:o.guard=some (j,w))(hj:(ops[j]?).bind (·.dst)=some d)(hd:look ρ d=some (.bool v))(hu:(v==w)=u):dR ops (look ρ) o u:=by simp only[dR,h];exact⟨d,.bool v,hj,hd,.inl ⟨v,rfl,hu⟩⟩
theorem Ops.st(H:Ops x ops rest Q ((d,v)::ρ) ds F)(ho:cO ops.toList i=some ⟨some d,op,ty,pos,bK,g⟩:=by rfl)(hw:want ops ρ ⟨some d,op,ty,pos,bK,g⟩:=by first | exact qP rfl | exact ak rfl rfl rfl)(hd:Nat.blt d x.n=true:=by rfl)(hn:cu op=true:=by rfl)
  (
   hy:Yv x (· =F) ρ ⟨some d,op,ty,pos,bK,g⟩ v:=by
   first
   | exact aN rfl rfl
   | exact jS rfl rfl
   | exact ay rfl rfl
   | exact Wp rfl rfl (by first | exact .inl (by assumption) | exact .inr (fun _ e=>by subst e;first | exact .head _ | exact .tail _ (.head _) | exact .tail _ (.tail _ (.head _)) | (repeat(first | exact List.Mem.head _ | apply List.Mem.tail)))) (by first | assumption | rfl)
   | exact Ih rfl rfl (by first | exact .inl (by assumption) | exact .inr (fun _ e=>by subst e;first | exact .head _ | exact .tail _ (.head _) | exact .tail _ (.tail _ (.head _)) | (repeat(first | exact List.Mem.head _ | apply List.Mem.tail)))) (by first | assumption | decide | omega) (by first | assumption | rfl)
   | exact DK rfl rfl rfl (by first | assumption | omega)
   | exact BL rfl rfl rfl (by first | assumption | omega)
   | exact y5 rfl rfl rfl (by first | assumption | omega) (by first | assumption | omega)
   | exact DL rfl rfl rfl (by first | assumption | omega) (by first | assumption | omega)
   | exact dM rfl rfl
   | exact fO rfl rfl rfl | exact Lr rfl rfl rfl | exact rC rfl rfl rfl | exact IJ rfl rfl rfl | exact nD rfl rfl rfl | exact nG rfl rfl rfl
   | exact aaI rfl rfl rfl (by omega) (by omega) | exact aaJ rfl rfl rfl (by omega) (by omega) | exact MZ rfl rfl rfl | exact M_ rfl rfl rfl | exact Fz rfl rfl rfl
   | exact bD rfl rfl rfl | exact xU rfl rfl | exact dG rfl rfl rfl | exact iH rfl rfl rfl | exact bg rfl rfl | exact aT rfl rfl
   | exact y7 rfl rfl rfl | exact Tj rfl (by intro _ h;cases h) rfl | exact eH rfl rfl rfl | exact Zh rfl rfl rfl | exact Wq rfl rfl rfl
   | exact Ti rfl rfl rfl (by omega) (by omega) (by first | assumption | rfl) | exact Ws rfl rfl rfl (by omega) (by omega) (by first | assumption | rfl)
   | exact Tm rfl rfl rfl | exact y8 rfl rfl rfl | exact acK rfl rfl | exact FC rfl rfl | exact acJ rfl rfl (by omega) (by omega)
   | exact acI rfl rfl rfl | exact aaK rfl rfl rfl | exact Gx rfl rfl rfl | exact OL rfl rfl rfl | exact Wx rfl rfl rfl (by omega) | exact Gw rfl rfl rfl (by omega) | exact Wu rfl rfl rfl (by omega) | exact acH rfl rfl rfl (by omega)):Ops x ops (i::rest) Q ρ ds F:=
 Ops.quiet (o:=⟨some d,op,ty,pos,bK,g⟩) H (aU ho) hw hd hn hy

theorem Ops.no{j d':Nat}{w v:Bool}(H:Ops x ops rest Q ((d,undef)::ρ) ds F)(ho:cO ops.toList i=some ⟨some d,op,ty,pos,bK,some (j,w)⟩:=by rfl)(hj:(cO ops.toList j).bind (·.dst)=some d':=by rfl)(hv:look ρ d'=some (.bool v):=by rfl)(hne:(v==w)=false:=by rfl)(hd:Nat.blt d x.n=true:=by rfl):Ops x ops (i::rest) Q ρ ds F:=
 Ops.unwanted (aU ho) rfl (by rw[AO]at hj;simpa using hj) hv hne hd H

theorem Ops.ask{j d':Nat}{w:Bool}{p:Prop}[Decidable p]{D:Option Tmp}(ht:p→Ops x ops (i::rest) Q ((d',.bool true)::ρ) ds F)(hf:¬p→Ops x ops (i::rest) Q ((d',.bool false)::ρ) ds F)(ho:cO ops.toList i=some ⟨D,op,ty,pos,bK,some (j,w)⟩:=by rfl)(hj:(cO ops.toList j).bind (·.dst)=some d':=by rfl)(hv:look ρ d'=some (.bool (decide p)):=by rfl):Ops x ops (i::rest) Q ρ ds F:=by
 have key:∀u:Bool,decide p=u→Ops x ops (i::rest) Q ((d',.bool u)::ρ) ds F→Ops x ops (i::rest) Q ρ ds F:=by
  intro u hu H b k cs Stop tmps hk M h1 h0 h2 h3 h4 h5 hc
  refine H b k cs Stop tmps hk M h1 h0 h2 (fun t y hy=>?_) h4 h5 hc
  unfold look at hy
  cases e:Nat.beq t d' with
  | true=>
   rw[e]at hy
   simp only[cond_true,Option.some.injEq]at hy
   subst hy
   rw[Nat.eq_of_beq_eq_true e]
   rw[←hu]
   exact h3 d' _ hv
  | false=>rw[e]at hy;exact h3 t y hy
 by_cases hp:p
 ·exact key true (by simp[hp]) (ht hp)
 ·exact key false (by simp[hp]) (hf hp)

theorem Ops.new{t s b:Nat}{z:Value}{zc:Array Value}(H:∀β,Ops x ops rest Q ((d,.pointer (some ⟨β,0,none⟩))::ρ) ds ((β,.cells zc t (0,0))::F))(ho:cO ops.toList i=some ⟨some d,.alloc t,ty,pos,bK,g⟩:=by rfl)[TI x.P t s b z zc](hw:want ops ρ ⟨some d,.alloc t,ty,pos,bK,g⟩:=by first | exact qP rfl | exact ak rfl rfl rfl)(hd:Nat.blt d x.n=true:=by rfl):Ops x ops (i::rest) Q ρ ds F:=
 Ops.eff (o:=⟨some d,.alloc t,ty,pos,bK,g⟩) (wJ rfl fun β _ _=>H β) (aU ho) hw hd rfl
theorem Ops.box{t:TypeId}{y:Operand}{u:Value}{cs:Array Value}(H:∀β,Ops x ops rest Q ((d,.pointer (some ⟨β,0,none⟩))::ρ) ds ((β,.cells cs t (0,0))::F))(ho:cO ops.toList i=some ⟨some d,.box t y,ty,pos,bK,g⟩:=by rfl)(hy:ev ρ y=some u:=by rfl)(hc:u.cells=cs:=by rfl)(hw:want ops ρ ⟨some d,.box t y,ty,pos,bK,g⟩:=by first | exact qP rfl | exact ak rfl rfl rfl)(hd:Nat.blt d x.n=true:=by rfl):Ops x ops (i::rest) Q ρ ds F:=
 Ops.eff (o:=⟨some d,.box t y,ty,pos,bK,g⟩) (aaL rfl hy hc fun β _ _=>H β) (aU ho) hw hd rfl
theorem Ops.yG{t b':Nat}{z:Value}{zc:Array Value}{a y:Operand}{b off:Nat}{c:Array Value}{E:TypeId}{U:Obj→ah}{u:Value}(H:Ops x ops rest Q ρ ds (U (.cells (c.setIfInBounds off u) E (0,0))))(ho:cO ops.toList i=some ⟨none,.store t a y,ty,pos,bK,g⟩:=by rfl)[TI x.P t 1 b' z zc]
  (ha:ev ρ a=some (.pointer (some ⟨b,off,none⟩)):=by rfl) (hy:ev ρ y=some u:=by rfl) (h1:one u=true:=by rfl) (hl:At b (.cells c E (0,0)) F U:=by repeat(first | exact At.head | apply At.tail | apply At.app)) (hc:off<c.size:=by first | assumption | decide | omega | (simp;done)) (hw:want ops ρ ⟨none,.store t a y,ty,pos,bK,g⟩:=by first | exact qP rfl | exact ak rfl rfl rfl):Ops x ops (i::rest) Q ρ ds F:=
 Ops.eff (o:=⟨none,.store t a y,ty,pos,bK,g⟩) (Tn (s:=1) rfl ha hy h1 hl hc H) (aU ho) hw rfl rfl
theorem Ops.jP{t n:Nat}{a y:Operand}{b:Nat}{c vs:Array Value}{E:TypeId}{U:Obj→ah}(H:Ops x ops rest Q ρ ds (U (.cells vs E (0,0))))(ho:cO ops.toList i=some ⟨none,.store t a y,ty,pos,bK,g⟩:=by rfl)[AG x.P t n]
  (ha:ev ρ a=some (.pointer (some ⟨b,0,none⟩)):=by rfl) (hy:ev ρ y=some (.agg vs):=by rfl) (hn:vs.size=n:=by first | assumption | rfl) (h1:ones vs.toList=true:=by first | assumption | rfl) (hl:At b (.cells c E (0,0)) F U:=by repeat(first | exact At.head | apply At.tail | apply At.app)) (hc:c.size=n:=by first | assumption | rfl) (hw:want ops ρ ⟨none,.store t a y,ty,pos,bK,g⟩:=by first | exact qP rfl | exact ak rfl rfl rfl):Ops x ops (i::rest) Q ρ ds F:=
 Ops.eff (o:=⟨none,.store t a y,ty,pos,bK,g⟩) (OT rfl ha hy hn h1 hl hc H) (aU ho) hw rfl rfl
theorem Ops.nY{t n:Nat}{a y:Operand}{b off:Nat}{c vs:Array Value}{E:TypeId}{U:Obj→ah}(H:Ops x ops rest Q ρ ds (U (.cells (jv c off vs.toList) E (0,0))))(ho:cO ops.toList i=some ⟨none,.store t a y,ty,pos,bK,g⟩:=by rfl)[AG x.P t n]
  (ha:ev ρ a=some (.pointer (some ⟨b,off,none⟩)):=by rfl) (hy:ev ρ y=some (.agg vs):=by rfl) (hn:vs.size=n:=by first | assumption | rfl) (h1:ones vs.toList=true:=by first | assumption | rfl) (hl:At b (.cells c E (0,0)) F U:=by repeat(first | exact At.head | apply At.tail | apply At.app)) (hc:off+n≤c.size:=by first | assumption | decide | omega) (hw:want ops ρ ⟨none,.store t a y,ty,pos,bK,g⟩:=by first | exact qP rfl | exact ak rfl rfl rfl):Ops x ops (i::rest) Q ρ ds F:=
 Ops.eff (o:=⟨none,.store t a y,ty,pos,bK,g⟩) (OQ rfl ha hy hn h1 hl hc H) (aU ho) hw rfl rfl

theorem go{A B:Prop}(b:B)(h:B→A:=by
  first
  | exact Ops.st
  | exact Ops.nil
  | exact aA | exact dI
  | exact W.seq
  | exact W.region rfl
  | exact Ops.yG | exact Ops.jP | exact Ops.nY
  | exact Ops.no
  | exact W.block
  | exact W.dW | exact W.bZ
  | exact W.skip | exact W.exit | exact W.ret | exact bP | exact aY | exact cZ | exact gG | exact Tt | exact WC | exact aaM | exact W.goto | exact W.label):A:=h b
end rules
end Go.aS

/- Short forms of the laws, for scripts. Conditions: none; over any program. -/
namespace Go.aS
section rules
variable{x:Cx}{Q:Post}{ρ:Env}{ds:List Deferred}{F:ah}{ops:Array Oper}{S:ah→Prop}{L:ah}{i:Nat}{rest:List Nat}{o:Oper}{v:Value}{R:Value→ah→Prop}{d:Tmp}{op:Op}{ty:TypeId}{pos:String}{bK:Array Edge}{g:Option (Nat×Bool)}{K:Env→List Deferred→ah→Prop}
theorem wn{D:Option Tmp}:want ops ρ ⟨D,op,ty,pos,bK,none⟩:=trivial
theorem an{D:Option Tmp}:dR ops (look ρ) ⟨D,op,ty,pos,bK,none⟩ true:=rfl

theorem Keeps.refl:Keeps F F:=fun _ h=>h
theorem Keeps.nil:Keeps [] F:=fun _ h=>absurd h List.not_mem_nil
theorem Keeps.one{y:Nat×Obj}(hy:y∈F)(h:Keeps L F):Keeps (y::L) F:=fun p hp=>by
 rcases List.mem_cons.1 hp with rfl | hp
 ·exact hy
 ·exact h p hp
theorem Keeps.cons{y:Nat×Obj}(h:Keeps L F):Keeps L (y::F):=fun p hp=>List.mem_cons_of_mem _ (h p hp)
theorem Keeps.app{A:ah}(h:Keeps L F):Keeps L (A++F):=fun p hp=>List.mem_append_right _ (h p hp)

theorem oq(hy:Yv x (· =F) ρ ⟨some d,op,ty,pos,bK,g⟩ v)(ho:cO ops.toList i=some ⟨some d,op,ty,pos,bK,g⟩)(hw:want ops ρ ⟨some d,op,ty,pos,bK,g⟩)(hd:Nat.blt d x.n=true)(hn:cu op=true)(H:Ops x ops rest Q ((d,v)::ρ) ds F):Ops x ops (i::rest) Q ρ ds F:=
 Ops.quiet (o:=⟨some d,op,ty,pos,bK,g⟩) H (aU ho) hw hd hn hy
theorem aq{fuel listed:Nat}(hy:Yv x (Keeps L) ρ ⟨some d,op,ty,pos,bK,g⟩ v)(ho:cO ops.toList i=some ⟨some d,op,ty,pos,bK,g⟩)(hw:dR ops (look ρ) ⟨some d,op,ty,pos,bK,g⟩ true)(hd:Nat.blt d x.n=true)(hn:cu op=true)(H:Any x ops L fuel (listed||| 2 ^ i) Q ((d,v)::ρ) ds F)(hr:(Fq ops listed i&&xR ops listed i&&DJ ops)=true:=by kernel_rfl)(hS:Keeps L F:=by first | exact fun _ h=>h | exact fun _ h=>absurd h List.not_mem_nil | ((repeat(first | exact fun _ h=>h | apply Keeps.cons | apply Keeps.app)) <;>fail) | (repeat(first | exact Keeps.nil | refine Keeps.one (by repeat(first | exact List.Mem.head _ | apply List.Mem.tail)) ?_))):Any x ops L (fuel+1) listed Q ρ ds F:=by
 simp only[Bool.and_eq_true]at hr
 exact Any.quiet (o:=⟨some d,op,ty,pos,bK,g⟩) H hr.1.1 hr.1.2 (aU ho) hr.2 hw hd hn hS hy
theorem ap{fuel listed j d':Nat}{w u:Bool}(ho:cO ops.toList i=some ⟨some d,op,ty,pos,bK,some (j,w)⟩)(hj:(cO ops.toList j).bind (·.dst)=some d')(hv:look ρ d'=some (.bool u))(hne:(u==w)=false)(hd:Nat.blt d x.n=true)(hn:cu op=true)(H:Any x ops L fuel (listed||| 2 ^ i) Q ((d,undef)::ρ) ds F)(hr:(Fq ops listed i&&xR ops listed i&&DJ ops)=true:=by kernel_rfl)(hS:Keeps L F:=by first | exact fun _ h=>h | exact fun _ h=>absurd h List.not_mem_nil | ((repeat(first | exact fun _ h=>h | apply Keeps.cons | apply Keeps.app)) <;>fail) | (repeat(first | exact Keeps.nil | refine Keeps.one (by repeat(first | exact List.Mem.head _ | apply List.Mem.tail)) ?_))):Any x ops L (fuel+1) listed Q ρ ds F:=by
 simp only[Bool.and_eq_true]at hr
 exact Any.pass (o:=⟨some d,op,ty,pos,bK,some (j,w)⟩) H hr.1.1 hr.1.2 (aU ho) hr.2 (b_ rfl (by rw[AO]at hj;simpa using hj) hv hne) hd hn hS
theorem oe{D:Option Tmp}(ho:cO ops.toList i=some ⟨D,op,ty,pos,bK,g⟩)(hw:want ops ρ ⟨D,op,ty,pos,bK,g⟩)(hd:d_ D x.n=true)(hn:cu op=true)(H:Ef x ρ ⟨D,op,ty,pos,bK,g⟩ F fun v F'=>Ops x ops rest Q (put ρ D v) ds F'):Ops x ops (i::rest) Q ρ ds F:=
 Ops.eff (o:=⟨D,op,ty,pos,bK,g⟩) H (aU ho) hw hd hn
theorem ae{fuel listed:Nat}{D:Option Tmp}(ho:cO ops.toList i=some ⟨D,op,ty,pos,bK,g⟩)(hw:dR ops (look ρ) ⟨D,op,ty,pos,bK,g⟩ true)(hd:d_ D x.n=true)(hn:cu op=true)(H:Ef x ρ ⟨D,op,ty,pos,bK,g⟩ F fun v F'=>(lastT ops i=true∨Keeps L F')∧Any x ops L fuel (listed||| 2 ^ i) Q (put ρ D v) ds F')(hr:qx ops listed=[i]:=by kernel_rfl):
  Any x ops L (fuel+1) listed Q ρ ds F:=Any.eff (o:=⟨D,op,ty,pos,bK,g⟩) H hr (aU ho) hw hd hn
theorem az{fuel listed:Nat}(H:Q .normal ρ ds F)(hr:qx ops listed=[]:=by kernel_rfl):Any x ops L fuel listed Q ρ ds F:=Any.done hr H
theorem W.rE{id n:Nat}(hn:ops.size=n)(H:Any x ops F n 0 Q ρ ds F)[MO x.P]:W x (.region id ops true) Q ρ ds F:=W.draw MO.out F (hn▸H)
theorem W.DR{id n:Nat}(L:ah)(hn:ops.size=n)(H:Any x ops L n 0 Q ρ ds F)[MO x.P]:W x (.region id ops true) Q ρ ds F:=W.draw MO.out L (hn▸H)

theorem gs{A B:Prop}(b:B)(h:B→A:=by
  first
  | exact aA | exact dI
  | exact W.seq
  | exact Ops.nil | exact az
  | exact W.block
  | exact W.skip | exact W.exit | exact W.ret | exact bP | exact aY | exact cZ | exact gG | exact Tt | exact WC | exact aaM | exact W.goto | exact W.label):A:=h b

theorem lk{t:Nat}{u:Value}(h:look ρ t=some v)(e:v=u):look ρ t=some u:=e▸h

/-! ### Short forms of the laws that want a look at memory or a reckoning -/
theorem iQ{t:TypeId}{a:Operand}{b off:Nat}{c:Array Value}{E:TypeId}{fz:Nat×Nat}(ho:o.op= .load t a)[SC x.P t](ha:ev ρ a=some (.pointer (some ⟨b,off,none⟩)))
  (hl:Gv x.h S b (.cells c E fz):=by first | exact .inl (by assumption) | exact .inr (fun _ e=>by subst e;first | exact .head _ | exact .tail _ (.head _) | exact .tail _ (.tail _ (.head _)) | (repeat(first | exact List.Mem.head _ | apply List.Mem.tail))) | exact .inr (fun _ e=>e _ (by first | exact .head _ | exact .tail _ (.head _) | exact .tail _ (.tail _ (.head _)) | (repeat(first | exact List.Mem.head _ | apply List.Mem.tail)))))
  (hc:c[off]? =some v:=by first | assumption | rfl):Yv x S ρ o v:=Wp ho ha hl hc
theorem zi{t n:Nat}{a:Operand}{b off:Nat}{c vs:Array Value}{E:TypeId}{fz:Nat×Nat}(ho:o.op= .load t a)[AG x.P t n](ha:ev ρ a=some (.pointer (some ⟨b,off,none⟩)))
  (hl:Gv x.h S b (.cells c E fz):=by first | exact .inl (by assumption) | exact .inr (fun _ e=>by subst e;first | exact .head _ | exact .tail _ (.head _) | exact .tail _ (.tail _ (.head _)) | (repeat(first | exact List.Mem.head _ | apply List.Mem.tail))) | exact .inr (fun _ e=>e _ (by first | exact .head _ | exact .tail _ (.head _) | exact .tail _ (.tail _ (.head _)) | (repeat(first | exact List.Mem.head _ | apply List.Mem.tail)))))
  (hn:off+n≤c.size:=by first | assumption | exact Nat.le_of_ble_eq_true rfl | decide | omega) (hv:c.extract off (off+n)=vs:=by first | assumption | rfl):Yv x S ρ o (.agg vs):=Ih ho ha hl hn hv
theorem Bf{t n:Nat}{a:Operand}{b:Nat}{c:Array Value}{E:TypeId}{fz:Nat×Nat}(ho:o.op= .load t a)[AG x.P t n](ha:ev ρ a=some (.pointer (some ⟨b,0,none⟩)))
  (hl:Gv x.h S b (.cells c E fz):=by first | exact .inl (by assumption) | exact .inr (fun _ e=>by subst e;first | exact .head _ | exact .tail _ (.head _) | exact .tail _ (.tail _ (.head _)) | (repeat(first | exact List.Mem.head _ | apply List.Mem.tail))) | exact .inr (fun _ e=>e _ (by first | exact .head _ | exact .tail _ (.head _) | exact .tail _ (.tail _ (.head _)) | (repeat(first | exact List.Mem.head _ | apply List.Mem.tail)))))
  (hn:c.size=n:=by first | assumption | rfl):Yv x S ρ o (.agg c):=Ih ho ha hl (by omega) (by apply Array.ext';simp[←hn])
theorem G_{t E s by':Nat}{z:Value}{zc:Array Value}{a ix:Operand}{b off len cap:Nat}{k:IntKind}{n:Nat}(ho:o.op= .indexAddr t a ix)[TD x.P t (.slice E)][TI x.P E s by' z zc](ha:ev ρ a=some (.slice (some ⟨b,off,none⟩) len cap))(hi:ev ρ ix=some (.int k (n:Int)))(h1:n<len:=by first | assumption | omega):
  Yv x S ρ o (.pointer (some ⟨b,off+n*s,none⟩)):=DK ho ha hi h1
theorem UN{t E s by' m:Nat}{z:Value}{zc:Array Value}{a ix:Operand}{b off:Nat}{k:IntKind}{n:Nat}(ho:o.op= .indexAddr t a ix)[TD x.P t (.array m E)][TI x.P E s by' z zc](ha:ev ρ a=some (.pointer (some ⟨b,off,none⟩)))(hi:ev ρ ix=some (.int k (n:Int)))(h1:n<m:=by first | assumption | omega):
  Yv x S ρ o (.pointer (some ⟨b,off+n*s,none⟩)):=BL ho ha hi h1
theorem o_{t E s by':Nat}{z:Value}{zc:Array Value}{a ix:Operand}{b off len cap:Nat}{k:IntKind}{n:Int}(ho:o.op= .indexAddr t a ix)[TD x.P t (.slice E)][TI x.P E s by' z zc](ha:ev ρ a=some (.slice (some ⟨b,off,none⟩) len cap))(hi:ev ρ ix=some (.int k n))(h0:0≤n:=by first | assumption | omega)(h1:n<len:=by first | assumption | omega):
  Yv x S ρ o (.pointer (some ⟨b,off+n.toNat*s,none⟩)):=y5 ho ha hi h0 h1
theorem Zi{t t':TypeId}{y z:Operand}{a b:Int}(ho:o.op= .binOp .add t y z t')(hy:ev ρ y=some (.int .i64 a))(hz:ev ρ z=some (.int .i64 b))(h0: -9223372036854775808≤a+b:=by omega)(h1:a+b≤9223372036854775807:=by omega):Yv x S ρ o (.int .i64 (a+b)):=aaI ho hy hz h0 h1
theorem acL{t t':TypeId}{y z:Operand}{a b:Int}(ho:o.op= .binOp .sub t y z t')(hy:ev ρ y=some (.int .i64 a))(hz:ev ρ z=some (.int .i64 b))(h0: -9223372036854775808≤a-b:=by omega)(h1:a-b≤9223372036854775807:=by omega):Yv x S ρ o (.int .i64 (a-b)):=aaJ ho hy hz h0 h1
theorem aaC{t t':TypeId}{y z:Operand}{a b:Int}(ho:o.op= .binOp .mul t y z t')(hy:ev ρ y=some (.int .i64 a))(hz:ev ρ z=some (.int .i64 b))(h0: -9223372036854775808≤a*b:=by first | assumption | omega)(h1:a*b≤9223372036854775807:=by first | assumption | omega):Yv x S ρ o (.int .i64 (a*b)):=aBX ho hy hz h0 h1
theorem eS{t b':Nat}{z:Value}{zc:Array Value}{a y:Operand}{b off:Nat}{c:Array Value}{E:TypeId}{U:Obj→ah}{u:Value}(ho:o.op= .store t a y)[TI x.P t 1 b' z zc](ha:ev ρ a=some (.pointer (some ⟨b,off,none⟩)))(hy:ev ρ y=some u)
  (H:R undef (U (.cells (c.setIfInBounds off u) E (0,0)))) (h1:one u=true:=by first | rfl | assumption) (hl:At b (.cells c E (0,0)) F U:=by repeat(first | exact At.head | apply At.tail | apply At.app)) (hc:off<c.size:=by first | assumption | decide | omega | (simp;done)):Ef x ρ o F R:=Tn (s:=1) ho ha hy h1 hl hc H
theorem eSA{t n:Nat}{a y:Operand}{b off:Nat}{c vs:Array Value}{E:TypeId}{U:Obj→ah}(ho:o.op= .store t a y)[AG x.P t n](ha:ev ρ a=some (.pointer (some ⟨b,off,none⟩)))(hy:ev ρ y=some (.agg vs))
  (H:R undef (U (.cells (jv c off vs.toList) E (0,0)))) (hn:vs.size=n:=by first | assumption | rfl) (h1:ones vs.toList=true:=by first | assumption | rfl) (hl:At b (.cells c E (0,0)) F U:=by repeat(first | exact At.head | apply At.tail | apply At.app)) (hc:off+n≤c.size:=by first | assumption | exact Nat.le_of_ble_eq_true rfl | decide | omega):Ef x ρ o F R:=OQ ho ha hy hn h1 hl hc H
theorem eSW{t n:Nat}{a y:Operand}{b:Nat}{c vs:Array Value}{E:TypeId}{U:Obj→ah}(ho:o.op= .store t a y)[AG x.P t n](ha:ev ρ a=some (.pointer (some ⟨b,0,none⟩)))(hy:ev ρ y=some (.agg vs))
  (H:R undef (U (.cells vs E (0,0)))) (hn:vs.size=n:=by first | assumption | rfl) (h1:ones vs.toList=true:=by first | assumption | rfl) (hl:At b (.cells c E (0,0)) F U:=by repeat(first | exact At.head | apply At.tail | apply At.app)) (hc:c.size=n:=by first | assumption | rfl):Ef x ρ o F R:=OT ho ha hy hn h1 hl hc H
end rules
end Go.aS

/- Loops over functions. Conditions: none; over any program. -/
namespace Go.aS
theorem W.frame{x:Cx}{c:Code}{Q:Post}{ρ:Env}{ds:List Deferred}{A B:ah}(H:∀h',Ext x.h h'→fF B h'→W {x with h:=h'} c Q ρ ds A):
  W x c (fun e ρ ds F'=>∃A',Q e ρ ds A'∧F'=A'++B) ρ ds (A++B):=by
 intro b k cs Stop tmps hk M h1 h0 h2 h3 h4 h5 hc
 obtain⟨S1,e1,e2⟩:=h5.lend
 refine H _ e1 e2 b k cs Stop tmps hk M h1 h0 h2 h3 h4 S1 fun e ρ' ds' A' aZ hk' M' q a1 a2 a3 a4=>?_
 obtain⟨a,b⟩:=h5.back a3 a4
 exact hc e ρ' ds' _ aZ hk' M' ⟨A',q,rfl⟩ a1 a2 a b

/-! ### The step into a loop over a function, and out of it -/
section steps
variable{P:Program}{main:Side}{b:Frame}{t:Array Value}{ds:List Deferred}{k:List Item}{cs:List Frame}{w w₁ w₂:World}
def IU(f:Operand)(l:Nat):Call:={callee:=.value f,args:= #[.const (.func (.yield l) #[] #[])],argTypes:= #[]}

theorem DT{es es':Array Event}{g:Goroutine}{w:World}:GStep.after es (.go g w es')= .go g w (es++es'):=rfl

theorem Nb{f:Operand}{params:Array Tmp}{us bd:Code}{l:Nat}{mark:List Deferred}{es:Array Event}(hr:(Instr.enterLoop b.fn t params us bd b.roundOf).runT P w #[]=(.ok (l,mark) w₁,es)):
  stepG P main.b (G (bW b t ds (.code (.rangeFunc f params us bd)::k)) cs) w=
   GStep.after (seen P b.fn es) (stepG.apply P true (bW b t (mark++ds) (.inRangeFunc l::k)) cs none ((resolve (bW b t (mark++ds) (.inRangeFunc l::k)).eval (IU f l) 0).bind fun d=>invoke d.target d.args) w₁):=by
 simp only[Conc.G,stepG,stepG.exec,bW,hr]
 rfl

theorem He{l:Nat}{jump:Option Code}{es:Array Event}(hr:(Instr.endLoop l).runT P w #[]=(.ok jump w₁,es)):
  stepG P main.b (G (bW b t ds (.endRangeFunc l::k)) cs) w= .go (G (bW b t ds ((jump.map Item.code).toList++k)) cs) w₁ (seen P b.fn es):=by
 simp only[Conc.G,stepG,stepG.exec,bW,hr]
 rfl

theorem Nc{fr:Frame}{s:Sem Next}{w w':World}{f:FuncId}{args:Array Value}{es:Array Event}(r:s.runT P w #[]=(.ok (.enter f args) w',es))(hk:(fr.kind==CallKind.early)=false)
  (ht:∃l k,fr.todo= .inRangeFunc l::k):stepG.apply P true fr cs none s w= .go (G (Frame.enter P f args .normal) (fr::cs)) w' (seen P fr.fn es):=by
 obtain⟨l,k,ht⟩:=ht
 unfold stepG.apply
 simp only[r,hk,if_true,ht]
 rfl

end steps
def mark(d:Nat):Deferred:={target:=.collected d,args:= #[]}

theorem dX.seq{k:Hp}{M:Nat→Prop}{w w₁ w₂:World}{es es':Array Event}(h1:dX k M w w₁ es)(h2:dX (snap k w w₁) (grown M w w₁) w₁ w₂ es'):dX k M w w₂ (es++es'):=h1.trans h2

theorem W.rangeFunc{x:Cx}{Q:Post}{ρ:Env}{ds:List Deferred}{F:ah}{f:Operand}{params:Array Tmp}{us bd:Code}{fv:Value}(hf:ev ρ f=some fv)(hro:x.ro=none)
  (
   H:∀tmps,dQ ρ tmps→tmps.size=x.n→∀l d,∃A B R',(A++B).Perm ((l,.loop {state:=.ready,pending:=none,fn:=x.fn,tmps,params,assign:=us,body:=bd,defers:=d})::(d,.deferred (some []))::F)∧
   (∀h',Ext x.h h'→fF B h'→gZ x.P x.main fv [.func (.yield l) #[] #[]] h' A R')∧
   (∀v A',R' v A'→∃A₁,Sb A₁ A'∧tr x.P x.h (Instr.endLoop l) (A₁++B) fun jump QN=>match jump with | none=>∃UJ,Sb UJ QN∧Q .normal ρ (mark d::ds) UJ | some c=>W x c Q ρ (mark d::ds) QN)):W x (.rangeFunc f params us bd) Q ρ ds F:=by
 intro b k cs Stop tmps hk M h1 h0 h2 h3 h4 h5 hc
 have hk':(b.kind==CallKind.early)=false:=by simpa using h2
 refine .oN ⟨rfl,fun w hw hM=>?_⟩
 
 have htr:tr x.P x.h (Instr.enterLoop b.fn tmps params us bd b.roundOf) F fun lm qp=>∃d,lm.2=[mark d]∧qp=(lm.1,.loop {state:=.ready,pending:=none,fn:=x.fn,tmps,params,assign:=us,body:=bd,defers:=d})::(d,.deferred (some []))::F:=by
  rw[h0,hro,h1]
  refine⟨fun e=>(by cases e),fun d _ _=>⟨fun e=>(by cases e),fun l _ _=>⟨d,rfl,rfl⟩⟩⟩
 obtain⟨⟨l,mk⟩,qp,w₁,es,r1,r2,r3,r4,d,e1,rfl⟩:=jR _ #[] htr h5 hw hM
 simp only at e1
 subst e1
 rw[Array.empty_append]at r1
 obtain⟨A,B,R',hs,hcall,hend⟩:=H tmps h3 h4 l d
 have S0:=r3.perm hs
 obtain⟨S1,x1,x2⟩:=S0.lend
 obtain⟨fn,fi,ca,rfl,hinv⟩:=hcall _ x1 x2
 have hev:(bW b tmps ([mark d]++ds) (.inRangeFunc l::k)).eval f= .func fn fi ca:=h3.ev hf
 have hres:((resolve (bW b tmps ([mark d]++ds) (.inRangeFunc l::k)).eval (IU f l) 0).bind fun d=>invoke d.target d.args)=invoke (.fn fn ca) (fi++[Value.func (.yield l) #[] #[]].toArray):=by
  simp only[resolve,IU,hev,Deferred.ofValue,bind_eq,au,bind_pure,List.map_toArray,List.map_cons,List.map_nil]
  rfl
 obtain⟨nx,A₁,w₂,es₂,s1,s2,s3,s4,s5⟩:=jR _ #[] hinv S1 (qZ hw r2) (u_ hw hM r2.size)
 rw[Array.empty_append]at s1
 rw[Nb r1,hres]
 
 have on:∀v G (hk₂:Hp) (jr:Nat→Prop),R' v G→Sat (lend x.h B) G hk₂ jr→Fr (grown M w w₁) A jr G→Gs x.P x.main Stop (aS.G (bW b tmps ([mark d]++ds) (.endRangeFunc l::k)) cs) hk₂ jr:=by
  intro v G hk₂ jr r IB f₂
  obtain⟨A₁,hsb,hend⟩:=hend v G r
  obtain⟨aew,aa_⟩:=S0.back (IB.sb hsb) (f₂.sb hsb)
  refine .oN ⟨rfl,fun w₅ acM acN=>?_⟩
  obtain⟨jump,aex,w₆,afP,t1,t2,t3,t4,t5⟩:=jR _ #[] hend aew acM acN
  rw[Array.empty_append]at t1
  have hfr:Fr M F (grown jr w₅ w₆) aex:=r4.trans ((aa_.sub fun _ y=>hs.subset y).trans t4)
  refine⟨_,w₆,_,He t1,t2.mem fun _=>mem_seen,?_⟩
  cases jump with
  | none=>
   obtain⟨UJ,q1,q2⟩:=t5
   exact hc .normal ρ _ UJ tmps _ _ q2 h3 h4 (t3.sb q1) (hfr.sb q1)
  | some c=>exact t5 b k cs Stop tmps _ _ h1 h0 h2 h3 h4 t3 fun e ρ' ds' G' aZ hk' M' q a1 a2 a3 a4=>hc e ρ' ds' G' aZ hk' M' q a1 a2 a3 (hfr.trans a4)
 have hg:dX hk M w w₂ (seen x.P b.fn es++seen x.P b.fn es₂):=by
  have g1:dX hk M w w₁ (seen x.P b.fn es):=r2.mem fun _=>mem_seen
  have g2:dX (snap hk w w₁) (grown M w w₁) w₁ w₂ (seen x.P b.fn es₂):=s2.mem fun _=>mem_seen
  exact g1.trans g2
 have e5:snap (snap hk w w₁) w₁ w₂=snap hk w w₂:=Lm hw r2.size s2.size s2.chans
 have e6:grown (grown M w w₁) w₁ w₂=grown M w w₂:=yX r2.size s2.size
 rw[e5,e6]at s3
 rw[e6]at s4
 cases nx with
 | value v=>exact⟨_,w₂,_,by rw[lZ (fr:=bW b tmps ([mark d]++ds) (.inRangeFunc l::k)) s1 hk',DT];rfl,hg,on v A₁ _ _ s5 s3 s4⟩
 | skip=>exact⟨_,w₂,_,by rw[CP (fr:=bW b tmps ([mark d]++ds) (.inRangeFunc l::k)) s1 hk',DT];rfl,hg,on undef A₁ _ _ s5 s3 s4⟩
 | enter f args=>exact⟨_,w₂,_,by rw[Nc (fr:=bW b tmps ([mark d]++ds) (.inRangeFunc l::k)) s1 hk' ⟨_,_,rfl⟩,DT];rfl,hg,s5 (bW b tmps ([mark d]++ds) (.inRangeFunc l::k)) cs Stop _ _ s3 fun v G hk₂ jr r IB f₂=>on v G hk₂ jr r IB (s4.trans f₂)⟩
 | round l' f tm as' bd'=>exact⟨_,w₂,_,by rw[Gq (fr:=bW b tmps ([mark d]++ds) (.inRangeFunc l::k)) s1 hk',DT];rfl,hg,s5 (bW b tmps ([mark d]++ds) (.inRangeFunc l::k)) cs Stop _ _ s3 fun v G hk₂ jr r IB f₂=>on v G hk₂ jr r IB (s4.trans f₂)⟩
 | _=>exact s5.elim

end Go.aS

/- Slices: of what is read ('Sl'), and of one's own ('Os'); append, copy, slices of slices. Conditions: none; over any program. -/
namespace Go.aS
def Part(c:Array Value)(off:Nat)(xs:List Value):Prop:=∃pre post,c.toList=pre++(xs++post)∧pre.length=off

theorem Part.len{c:Array Value}{off:Nat}{xs:List Value}(h:Part c off xs):off+xs.length≤c.size:=by
 obtain⟨pre,post,h1,h2⟩:=h
 have:c.size=c.toList.length:=by simp
 rw[this,h1];simp;omega
theorem Part.get{c:Array Value}{off j:Nat}{xs:List Value}(h:Part c off xs)(hj:j<xs.length):c[off+j]? =xs[j]? :=by
 obtain⟨pre,post,h1,h2⟩:=h
 have:c[off+j]? =c.toList[off+j]? :=by simp
 rw[this,h1,List.getElem?_append_right (by omega),List.getElem?_append_left (by omega)]
 congr 1;omega
theorem Part.sub{c:Array Value}{off:Nat}{a b d:List Value}(h:Part c off (a++(b++d))):Part c (off+a.length) b:=by
 obtain⟨pre,post,h1,h2⟩:=h
 exact⟨pre++a,d++post,by rw[h1];simp,by simp;omega⟩
theorem Part.extract{c:Array Value}{off:Nat}{xs:List Value}(h:Part c off xs):c.extract off (off+xs.length)=xs.toArray:=by
 obtain⟨pre,post,h1,h2⟩:=h
 apply Array.ext'
 rw[Array.toList_extract,h1]
 simp[List.extract,h2.symm]
theorem Part.all(xs:List Value):Part xs.toArray 0 xs:=⟨[],[],by simp,rfl⟩
class Rw{α:Type}(row:α→List Value)(w:outParam Nat):Prop where
 len:∀p,(row p).length=w
 ones:∀p,ones (row p)=true

def fH(n:Int):List Value:=[.int .i64 n]
instance:Rw fH 1:=⟨fun _=>rfl,fun _=>rfl⟩

section
variable{α:Type}{row:α→List Value}{w:Nat}[rw':Rw row w]
def flat(row:α→List Value)(l:List α):List Value:=l.flatMap row
theorem iV(p:α)(l:List α):flat row (p::l)=row p++flat row l:=rfl
theorem zk(l l':List α):flat row (l++l')=flat row l++flat row l':=List.flatMap_append
theorem jT(l:List α):(flat row l).length=l.length*w:=by
 induction l with
 | nil=>simp[flat]
 | cons p l ih=>rw[iV,List.length_append,Rw.len,ih,List.length_cons,Nat.succ_mul];omega
theorem OW:∀(a b:List Value),ones (a++b)=(ones a&&ones b)
 | [],b=>rfl
 | u::a,b=>by simp[aS.ones,OW a b,Bool.and_assoc]
include rw' in
theorem Lu(l:List α):aS.ones (flat row l)=true:=by
 induction l with
 | nil=>rfl
 | cons p l ih=>rw[iV,OW,rw'.ones,ih];rfl

theorem Q8{l:List α}{i:Nat}{p:α}(h:l[i]? =some p):flat row l=flat row (l.take i)++(row p++flat row (l.drop (i+1))):=by
 have hlt:i<l.length:=by
  rcases Nat.lt_or_ge i l.length with h' | h'
  ·exact h'
  ·rw[List.getElem?_eq_none h']at h;cases h
 have e:l=l.take i++(p::l.drop (i+1)):=by
  rw[List.getElem?_eq_getElem hlt,Option.some.injEq]at h
  rw[←h,List.getElem_cons_drop,List.take_append_drop]
 conv=>lhs;rw[e]
 rw[zk,iV]

theorem Part.rowP{c:Array Value}{off i:Nat}{l:List α}{p:α}(h:Part c off (flat row l))(hi:l[i]? =some p):Part c (off+i*w) (row p):=by
 have hlt:i<l.length:=by
  rcases Nat.lt_or_ge i l.length with h' | h'
  ·exact h'
  ·rw[List.getElem?_eq_none h']at hi;cases hi
 rw[Q8 hi]at h
 have:=h.sub
 rwa[jT,List.length_take,Nat.min_eq_left (by omega)]at this
theorem Part.abd{c:Array Value}{off i:Nat}{l:List α}{p:α}(h:Part c off (flat row l))(hi:l[i]? =some p):c.extract (off+i*w) (off+i*w+w)=(row p).toArray∧off+i*w+w≤c.size:=by
 have h1:=h.rowP hi
 have h2:=h1.extract
 have h3:=h1.len
 rw[Rw.len (row:=row) (w:=w)]at h2 h3
 exact⟨h2,h3⟩

/-! ### Slices that are read -/
def Sl(h:Hp)(row:α→List Value)(v:Value)(l:List α):Prop:=
 ∃a cap,v= .slice a l.length cap∧(l≠[]→∃b off c E fz,a=some ⟨b,off,none⟩∧h b=some (.cells c E fz)∧Part c off (flat row l))

omit rw' in
theorem Sl.ext{h h':Hp}(e:Ext h h'){v:Value}{l:List α}(H:Sl h row v l):Sl h' row v l:=by
 obtain⟨a,cap,h1,h2⟩:=H
 refine⟨a,cap,h1,fun hl=>?_⟩
 obtain⟨b,off,c,E,fz,h3,h4,h5⟩:=h2 hl
 exact⟨b,off,c,E,fz,h3,e.1 _ _ h4,h5⟩
omit rw' in
theorem Sl.nil{h:Hp}{a:Option Addr}{cap:Nat}:Sl h row (.slice a 0 cap) []:=⟨a,cap,rfl,fun h=>absurd rfl h⟩
omit rw' in
theorem Sl.mk{h:Hp}{b off n cap:Nat}{c:Array Value}{E:TypeId}{fz:Nat×Nat}{l:List α}(hb:h b=some (.cells c E fz))(hn:n=l.length)(hp:Part c off (flat row l)):Sl h row (.slice (some ⟨b,off,none⟩) n cap) l:=
 ⟨_,cap,by rw[hn],fun _=>⟨b,off,c,E,fz,rfl,hb,hp⟩⟩
omit rw' in
theorem Sl.len{h:Hp}{a:Option Addr}{n cap:Nat}{l:List α}(H:Sl h row (.slice a n cap) l):n=l.length:=by
 obtain⟨a',cap',h1,_⟩:=H
 cases h1;rfl

/-! ### Slices of one's own -/
def Os(E:TypeId)(row:α→List Value)[Rw row w](v:Value)(l:List α)(A:ah):Prop:=
 (l=[]∧v= .slice none 0 0∧Shut A)∨∃β c cap J,v= .slice (some ⟨β,0,none⟩) l.length cap∧A=(β,.cells c E (0,0))::J∧c.size=cap*w∧l.length≤cap∧Part c 0 (flat row l)∧Shut J

theorem Os.nil{E:TypeId}{A:ah}(h:Shut A):Os E row (.slice none 0 0) [] A:=.inl ⟨rfl,rfl,h⟩
theorem Os.shut{E:TypeId}{v:Value}{l:List α}{A:ah}(H:Os E row v l A):Shut A:=by
 rcases H with⟨_,_,h⟩ | ⟨β,c,cap,J,_,rfl,_,_,_,h⟩
 ·exact h
 ·exact .cons rfl h
theorem Os.sl{E:TypeId}{v:Value}{l:List α}{A:ah}(H:Os E row v l A){h:Hp}(hl:fF A h):Sl h row v l:=by
 rcases H with⟨rfl,rfl,_⟩ | ⟨β,c,cap,J,rfl,rfl,h1,h2,h3,_⟩
 ·exact .nil
 ·exact .mk (hl β (.cells c E (0,0)) (by simp)) rfl h3
theorem Os.dA{E:TypeId}{v:Value}{l:List α}{A:ah}(H:Os E row v l A):∃a cap,v= .slice a l.length cap:=by
 rcases H with⟨rfl,rfl,_⟩ | ⟨β,c,cap,J,rfl,rfl,h1,h2,h3,_⟩
 ·exact⟨_,_,rfl⟩
 ·exact⟨_,_,rfl⟩

/-! ### append -/
theorem DU{P:Program}{h:Hp}{F:ah}{v:Value}{l:List α}{Q:Array Value→ah→Prop}(H:Sl h row v l)(K:Q (flat row l).toArray F):tr P h (Builtin.firstCells w l.length v) F Q:=by
 obtain⟨a,cap,rfl,h2⟩:=H
 cases l with
 | nil=>
  cases a with
  | none=>exact K
  | some a=>simp only[Builtin.firstCells,List.length_nil,Nat.zero_mul,loadCells,loadCellsFrom];exact K
 | cons p l=>
  obtain⟨b,off,c,E,fz,rfl,h4,h5⟩:=h2 (by simp)
  have h6:=h5.len
  have h7:=h5.extract
  rw[jT]at h6 h7
  simp only[Builtin.firstCells,loadCells]
  refine gX (.inl h4) _ 0 #[] (by omega) ?_
  simp only[Nat.add_zero,Array.empty_append]
  rw[h7];exact K

theorem UO{P:Program}{h:Hp}{E:TypeId}{A:ah}{v:Value}{l:List α}{Q:Array Value→ah→Prop}(H:Os E row v l A)(K:Q (flat row l).toArray A):tr P h (Builtin.firstCells w l.length v) A Q:=by
 rcases H with⟨rfl,rfl,_⟩ | ⟨β,c,cap,J,rfl,rfl,h1,h2,h3,_⟩
 ·exact K
 ·have h6:=h3.len
  have h7:=h3.extract
  rw[jT]at h6 h7
  simp only[Builtin.firstCells,loadCells]
  refine gX (.inr (List.mem_cons_self ..)) _ 0 #[] (by omega) ?_
  simp only[Nat.add_zero,Array.empty_append]
  rw[h7];exact K

theorem LC(n:Nat):∀(r c:Nat),c≤n→Builtin.growBy n r c≤2*n+768
 | 0,c,h=>by simp[Builtin.growBy];omega
 | r+1,c,h=>by
  unfold Builtin.growBy
  split
  ·omega
  ·rename_i hc
   by_cases h1:c+(c+768) / 4≤n
   ·exact LC n r _ h1
   ·cases r with
    | zero=>simp[Builtin.growBy];omega
    | succ r=>unfold Builtin.growBy;rw[if_pos (by omega)];omega
theorem IV{need cap:Nat}(h:cap<need):Builtin.nextslicecap need cap≤2*need+768:=by
 unfold Builtin.nextslicecap
 split
 ·omega
 ·split
  ·omega
  ·exact LC _ _ _ (by omega)

theorem Gz:∀(vs:List Value) (c:Array Value) {xs:List Value},Part c 0 xs→xs.length+vs.length≤c.size→Part (jv c xs.length vs) 0 (xs++vs)
 | [],c,xs,h,_=>by simpa[jv]using h
 | u::r,c,xs,h,hn=>by
  simp only[List.length_cons]at hn
  have h':Part (c.setIfInBounds xs.length u) 0 (xs++[u]):=by
   obtain⟨pre,post,h1,h2⟩:=h
   have hp:pre=[]:=List.length_eq_zero_iff.1 h2
   subst hp
   cases post with
   | nil=>
    have:c.size=c.toList.length:=by simp
    rw[this,h1]at hn;simp at hn;omega
   | cons y post=>
    refine⟨[],post,?_,rfl⟩
    rw[Array.toList_setIfInBounds,h1]
    simp
  have:=Gz r (c.setIfInBounds xs.length u) h' (by simp;omega)
  simpa[jv]using this

theorem zn{zc:Array Value}{n:Nat}:(Builtin.zeroCells zc n).size=n*zc.size:=by simp[Builtin.zeroCells]

theorem UQ{P:Program}{h:Hp}{t t' ty E E' by':Nat}{z:Value}{zc:Array Value}[TD P t (.slice E)][TD P t' (.slice E')][TI P E w by' z zc]{v x:Value}{l l':List α}{A:ah}{Q:Value→ah→Prop}(hzc:zc.size=w)
  (hs:Os E row v l A) (hx:Sl h row x l') (hb:(2*(l.length+l'.length)+768)*by'≤2 ^ 48) (hby:0<by')
  (K:∀v' A',Os E row v' (l++l') A'→Q v' A'):tr P h (Builtin.append_ #[t,t'] ty #[v,x]) A Q:=by
 obtain⟨j,hj,hj1,hj2,hj3,hj4⟩:=TI.out (inferInstance:TI P E w by' z zc)
 have hm:((l.length+l'.length:Nat):Int)≤IntKind.i64.max:=by
  have h1:(2*(l.length+l'.length)+768)*1≤(2*(l.length+l'.length)+768)*by':=Nat.mul_le_mul_left _ hby
  have h2:IntKind.i64.max=9223372036854775807:=rfl
  omega
 obtain⟨ax,Q9,hxe,_⟩:=id hx
 obtain⟨a,cap,hv⟩:=hs.dA
 subst hv hxe
 have e1:(#[t,t']:Array TypeId)[0]? =some t:=rfl
 have e2:(#[t,t']:Array TypeId)[1]? =some t':=rfl
 have e3:(#[Value.slice a l.length cap,Value.slice ax l'.length Q9]:Array Value)[0]? =some (.slice a l.length cap):=rfl
 have e4:(#[Value.slice a l.length cap,Value.slice ax l'.length Q9]:Array Value)[1]? =some (.slice ax l'.length Q9):=rfl
 simp only[Builtin.append_,e1,e2,e3,e4,bind_eq,au,bind_assoc,bind_pure,aC,dH,Bool.false_eq_true,if_false,Builtin.lenOf,Bool.not_false,if_true]
 by_cases hc:l.length+l'.length≤cap
 ·rw[if_pos hc]
  refine bJ (DU hx ?_)
  rcases hs with⟨rfl,he,hsh⟩ | ⟨β,c,cap',J,he,rfl,h1,h2,h3,hsh⟩
  ·cases he
   have:l'=[]:=List.length_eq_zero_iff.1 (by simp at hc;simp[hc])
   subst this
   exact K _ A (.nil hsh)
  ·cases he
   have hl3:=jT (row:=row) l
   have WE:=jT (row:=row) l'
   have hle:l.length*w+l'.length*w≤c.size:=by rw[h1,←Nat.add_mul];exact Nat.mul_le_mul_right _ hc
   have ea:(⟨β,0,none⟩:Addr).add (l.length*w)=⟨β,l.length*w,none⟩:=by rw[jE rfl];simp
   simp only[ea]
   refine bJ (kV (flat row l') 0 c (Lu l') At.head (by rw[WE];simp;omega) ?_)
   refine K _ _ (.inr ⟨β,jv c (l.length*w) (flat row l'),cap,J,by rw[List.length_append],by simp,by rw[y9,h1],by rw[List.length_append];exact hc,?_,hsh⟩)
   rw[zk,←hl3]
   exact Gz _ _ h3 (by rw[hl3,WE];exact hle)
 ·rw[if_neg hc]
  have c1:¬(((l.length+l'.length:Nat):Int)>IntKind.i64.max∧(false=true∨(by':Nat)=0)):=by omega
  have c2:¬Builtin.nextslicecap (l.length+l'.length) cap*by'>2 ^ 48:=by
   have:=IV (show cap<l.length+l'.length by omega)
   have:=Nat.mul_le_mul_right by' this
   omega
  simp only[dJ hj,hj2]
  have c1':¬(((l.length+l'.length:Nat):Int)>IntKind.i64.max):=by omega
  simp only[c1',false_and,if_false]
  rw[dJ hj,hj2,if_neg c2]
  intro n ⟨tp,hn⟩
  have hn':l.length+l'.length≤n:=by rw[hn];simp only[Question.cut];omega
  clear hn c2
  show tr P h (Sem.bind (typeInfo E) _) A Q
  rw[dJ hj,hj2]
  
  have room:∀{β:Type} {f:Unit→Sem β} {Q':β→ah→Prop},tr P h (f ()) A Q'→tr P h ((askRoom (n*by')).bind f) A Q':=by
   intro β f Q' H
   unfold askRoom
   split
   ·exact⟨rfl,H⟩
   ·exact H
  refine room (bJ (UO hs (bJ (DU hx ?_))))
  simp only[fG,hj4,newRow,bind_eq,au,bind_assoc,bind_pure]
  refine wI fun r _ _=>?_
  refine K _ _ (.inr ⟨r,_,n,A,by rw[List.length_append],rfl,?_,by rw[List.length_append];exact hn',?_,hs.shut⟩)
  ·simp only[Array.size_append,List.size_toArray,jT,zn,hzc,←Nat.add_mul]
   congr 1;omega
  ·refine⟨[],(Builtin.zeroCells zc (n- (l.length+l'.length))).toList,?_,rfl⟩
   rw[zk]
   simp only[Array.toList_append,List.nil_append,List.append_assoc]
end
/-! ### The laws -/
section rules
variable{x:Cx}{ρ:Env}{F:ah}{o:Oper}{R:Value→ah→Prop}{α:Type}{row:α→List Value}{w:Nat}[rw':Rw row w]
theorem iW{t t' E E' by':Nat}{z:Value}{zc:Array Value}{y yx:Operand}{v xv:Value}{l l':List α}{A:ah}{U:ah→ah}(ho:o.op= .call ⟨.builtin .append, #[y,yx], #[t,t']⟩)[TD x.P t (.slice E)][TD x.P t' (.slice E')][TI x.P E w by' z zc]
  (hy:ev ρ y=some v) (hx:ev ρ yx=some xv) (hs:Os E row v l A) (hg:Seg A F U) (hsrc:∀h',Ext x.h h'→fF (U []) h'→Sl h' row xv l') (hb:(2*(l.length+l'.length)+768)*by'≤2 ^ 48) (hby:0<by') (hzc:zc.size=w)
  (K:∀v' A',Os E row v' (l++l') A'→R v' (U A')):Ef x ρ o F R:=fun e he=>
 ⟨A,U [],hg.perm.1,fun h' e1 e2=>by
  simp only[execOp,ho,resolve,invoke,builtin,List.map_toArray,List.map_cons,List.map_nil,he y _ hy,he yx _ hx,bind_eq,au,bind_pure]
  exact bJ (UQ hzc hs (hsrc h' e1 e2) hb hby fun v' A' H=>⟨U A',hg.perm.2 A',K v' A' H⟩)⟩
end rules
end Go.aS

/- Loops over functions, as their bodies show them; iterators. Conditions: none; over any program. -/
namespace Go.aS
def runs{σ X:Type}(step:σ→X→σ×Bool):σ→List X→σ×Bool
 | s,[]=>(s,true)
 | s,p::xs=>match step s p with
  | (s',true)=>runs step s' xs
  | (s',false)=>(s',false)

theorem IW{σ X:Type}(step:σ→X→σ×Bool):∀(s:σ) (xs ys:List X),runs step s (xs++ys)=match runs step s xs with | (s',true)=>runs step s' ys | (s',false)=>(s',false)
 | s,[],ys=>rfl
 | s,p::xs,ys=>by
  simp only[List.cons_append,runs]
  split
  ·exact IW step _ xs ys
  ·rfl

def Out{σ:Type}(J K:σ→ah→Prop)(r:σ×Bool)(A:ah):Prop:=∃B,Sb B A∧match r with | (s,true)=>J s B | (s,false)=>K s B

def Yld(P:Program)(main:Side)(yv:Value)(h:Hp){σ X:Type}(enc:X→Value)(nx:X→σ→Prop)(step:σ→X→σ×Bool)(J K:σ→ah→Prop):Prop:=
 ∀h',Ext h h'→∀s p A,nx p s→J s A→gZ P main yv [enc p] h' A fun r A'=>r= .bool (step s p).2∧Out J K (step s p) A'
def LD{σ X:Type}(nx:X→σ→Prop)(step:σ→X→σ×Bool)(s:σ)(xs:List X):Prop:=∀pre p post s',xs=pre++p::post→runs step s pre=(s',true)→nx p s'
def Far{σ X:Type}(step:σ→X→σ×Bool)(s:σ)(xs:List X)(t:σ)(rest:List X):Prop:=∃pre,xs=pre++rest∧runs step s pre=(t,true)
theorem Far.zero{σ X:Type}{step:σ→X→σ×Bool}{s:σ}{xs:List X}:Far step s xs s xs:=⟨[],rfl,rfl⟩
theorem Far.eq{σ X:Type}{step:σ→X→σ×Bool}{s t:σ}{xs rest:List X}(h:Far step s xs t rest):runs step s xs=runs step t rest:=by
 obtain⟨pre,rfl,h2⟩:=h
 rw[IW,h2]
theorem Far.next{σ X:Type}{step:σ→X→σ×Bool}{s t t':σ}{xs rest:List X}{p:X}(h:Far step s xs t (p::rest))(hs:step t p=(t',true)):Far step s xs t' rest:=by
 obtain⟨pre,h1,h2⟩:=h
 refine⟨pre++[p],by rw[h1];simp,?_⟩
 rw[IW,h2]
 simp only[runs,hs]
theorem LD.far{σ X:Type}{nx:X→σ→Prop}{step:σ→X→σ×Bool}{s t:σ}{xs rest:List X}{p:X}(ha:LD nx step s xs)(h:Far step s xs t (p::rest)):nx p t:=by
 obtain⟨pre,h1,h2⟩:=h
 exact ha _ _ _ _ h1 h2
theorem LD.mem{σ X:Type}{step:σ→X→σ×Bool}{s:σ}{xs:List X}:LD (fun p _=>p∈xs) step s xs:=fun pre p post s' e _=>by rw[e];simp

theorem Ext.trans{a b c:Hp}(h:Ext a b)(h':Ext b c):Ext a c:=⟨fun _ _ x=>h'.1 _ _ (h.1 _ _ x),fun _ x=>h'.2 _ (h.2 _ x)⟩

theorem Yld.sub{P:Program}{main:Side}{yv:Value}{h h':Hp}{σ X:Type}{enc:X→Value}{nx nx':X→σ→Prop}{step:σ→X→σ×Bool}{J K:σ→ah→Prop}(H:Yld P main yv h enc nx step J K)(e:Ext h h')(s:∀p s,nx' p s→nx p s):Yld P main yv h' enc nx' step J K:=
 fun h'' e' t p A hp=>H h'' (e.trans e') t p A (s p t hp)

def Iter(P:Program)(main:Side)(fv:Value){X:Type}(enc:X→Value)(xs:List X)(h:Hp):Prop:=
 ∀h',Ext h h'→∀(yv:Value),one yv=true→∀(σ:Type) (nx:X→σ→Prop) (step:σ→X→σ×Bool) (J K:σ→ah→Prop),Yld P main yv h' enc nx step J K→∀s A,LD nx step s xs→J s A→gZ P main fv [yv] h' A fun _ A'=>Out J K (runs step s xs) A'

theorem Iter.ext{P:Program}{main:Side}{fv:Value}{X:Type}{enc:X→Value}{xs:List X}{h h':Hp}(H:Iter P main fv enc xs h)(e:Ext h h'):Iter P main fv enc xs h':=
 fun h'' e'=>H h'' (e.trans e')

def Q_:Option Exit→Exit
 | none=>.normal
 | some e=>e

def tK:Exit→Option Code
 | .exit id=>some (.exit id)
 | .goto l=>some (.goto l)
 | .ret=>some .ret
 | _=>none

theorem uy{e:Option Exit}(he:∀x,e=some x→(tK x).isSome=true):MN (Q_ e)=some (e.bind tK):=by
 cases e with
 | none=>rfl
 | some x=>have:=he x rfl;cases x <;>first | rfl | cases this

theorem W.post{x:Cx}{c:Code}{Q Q':Post}{ρ:Env}{ds:List Deferred}{F:ah}(H:W x c Q ρ ds F)(hq:∀e ρ ds F,Q e ρ ds F→Q' e ρ ds F):W x c Q' ρ ds F:=H.mono hq

def BN{σ X:Type}(st:σ→X→σ)(ex:σ→X→Option Exit):σ×Option Exit→X→(σ×Option Exit)×Bool:=fun s p=>((st s.1 p,ex s.1 p),(ex s.1 p).isNone)

theorem IX{σ X:Type}{st:σ→X→σ}{ex:σ→X→Option Exit}:∀{xs:List X} {s:σ} {r:σ×Option Exit} {b:Bool},runs (BN st ex) (s,none) xs=(r,b)→r.2.isNone=b
 | [],s,r,b,h=>by cases h;rfl
 | p::xs,s,r,b,h=>by
  simp only[runs,BN]at h
  cases he:ex s p with
  | none=>simp only[he]at h;exact IX h
  | some e=>simp only[he]at h;cases h;rfl

theorem W.range{x:Cx}{Q:Post}{ρ:Env}{ds:List Deferred}{F:ah}{f:Operand}{t:Tmp}{us bd:Code}{fv:Value}{X σ:Type}{enc:X→Value}{xs:List X}(hf:ev ρ f=some fv)(hro:x.ro=none)(ht:Nat.blt t x.n=true)
  (st:σ→X→σ) (ex:σ→X→Option Exit) (D:σ→ah→Prop) (s₀:σ) {A₀:ah} {g_:ah→ah} (hs:Seg A₀ F g_) (h0:D s₀ A₀)
  (hi:∀h',Ext x.h h'→fF (g_ []) h'→Iter x.P x.main fv enc xs h')
  (hex:∀s p e,ex s p=some e→(tK e).isSome=true)
  (
   body:∀s p A,p∈xs→D s A→∀l h',Ext x.h h'→fF (g_ []) h'→W {x with ro:=some l,h:=h'} us (fun e xP xQ qp=>e= .normal∧xQ=[]∧∀h',Ext x.h h'→fF (g_ []) h'→
   W {x with ro:=some l,h:=h'} bd (fun e _ ds₂ kP=>ds₂=[]∧e=Q_ (ex s p)∧∃B,D (st s p) B∧Sb B kP) xP [] qp) ((t,enc p)::ρ) [] A)
  (after:∀s e A,(runs (BN st ex) (s₀,none) xs).1=(s,e)→D s A→∀d,Q (Q_ e) ρ (mark d::ds) ((d,.deferred (some []))::g_ A)):W x (.rangeFunc f #[t] us bd) Q ρ ds F:=by
 refine W.rangeFunc hf hro fun tmps hρ hsz l d=>?_
 let L (s:LoopState) (pd:Option Code):Obj:=.loop {state:=s,pending:=pd,fn:=x.fn,tmps,params:= #[t],assign:=us,body:=bd,defers:=d}
 let J:σ×Option Exit→ah→Prop:=fun s A=>s.2=none∧∃B,D s.1 B∧A=B++[(l,L .ready none)]
 let K:σ×Option Exit→ah→Prop:=fun s A=>∃B c,D s.1 B∧s.2.bind tK=some c∧A=B++[(l,L .done (some c))]
 
 refine⟨A₀++[(l,L .ready none)],(d,.deferred (some []))::g_ [],fun _ A'=>Out J K (runs (BN st ex) (s₀,none) xs) A',?_,?_,?_⟩
 ·refine(List.perm_append_comm.append_right _).trans ?_
  refine List.Perm.cons _ ?_
  exact List.perm_middle.trans (hs.perm.1.cons _)
 ·intro h' e1 e2
  have e3:fF (g_ []) h':=fun b o hb=>e2 b o (List.mem_cons_of_mem _ hb)
  refine hi h' e1 e3 h' ⟨fun _ _ z=>z,fun _ z=>z⟩ _ rfl (σ×Option Exit) (fun p _=>p∈xs) (BN st ex) J K ?_ (s₀,none) _ LD.mem ⟨rfl,A₀,h0,rfl⟩
  
  rintro h'' e4 ⟨s,e⟩ p A hp ⟨rfl,B,hB,rfl⟩
  have hE:Ext x.h h'':=e1.trans e4
  have hL:fF (g_ []) h'':=fun b o hb=>e4.1 _ _ (e3 b o hb)
  refine⟨_,_,_,rfl,?_⟩
  simp only[invoke,Instr.yield,Instr.getLoop,bind_eq,au,bind_assoc]
  refine⟨L .ready none,.inr (List.mem_append_right _ (List.mem_cons_self ..)),(fun _ _ _=>by simp[L]),rfl,?_⟩
  have ez:Array.foldl (fun(tmps:Array Value) (x:Tmp×Value)=>tmps.setIfInBounds x.1 x.2) tmps (#[t].zip #[enc p])=tmps.setIfInBounds t (enc p):=by simp
  show ni x.P x.main h'' _ (.round l x.fn (Array.foldl (fun(tmps:Array Value) (x:Tmp×Value)=>tmps.setIfInBounds x.1 x.2) tmps (#[t].zip #[enc p])) us bd) _
  rw[ez]
  have hlt:t<tmps.size:=by rw[hsz];exact Nat.le_of_ble_eq_true ht
  have WG:dQ ((t,enc p)::ρ) (tmps.setIfInBounds t (enc p)):=hρ.put hlt _
  have hsz':(tmps.setIfInBounds t (enc p)).size=x.n:=by simpa using hsz
  show Rnd x.P x.main l x.fn (tmps.setIfInBounds t (enc p)) us bd h'' _ _
  refine Rnd.aG _ WG ?_
  rw[hsz']
  
  refine(W.frame (x:={x with ro:=some l,h:=h''}) fun h₃ e5 _=>body s p B hp hB l h₃ (hE.trans e5) (fun b o hb=>e5.1 _ _ (hL b o hb))).mono ?_
  rintro e xP xQ qp ⟨A',⟨rfl,rfl,hbd⟩,rfl⟩
  refine⟨rfl,rfl,?_⟩
  simp only[Instr.beginRound,Instr.getLoop,bind_eq,au,bind_assoc]
  refine⟨L .ready none,.inr (List.mem_append_right _ (List.mem_cons_self ..)),(fun _ _ _=>by simp[L]),rfl,?_⟩
  refine⟨L .ready none,A',[],rfl,(fun _ _ _=>by simp[L]),rfl,?_⟩
  show W _ _ _ _ _ (A'++[(l,L .busy none)])
  
  refine(W.frame (x:={x with ro:=some l,h:=h''}) fun h₃ e5 _=>hbd h₃ (hE.trans e5) (fun b o hb=>e5.1 _ _ (hL b o hb))).mono ?_
  rintro e tC ds₂ kP ⟨A₂,⟨rfl,rfl,Bg,BO,hsb⟩,rfl⟩
  refine⟨rfl,(ex s p).bind tK,uy fun e he=>hex s p e he,?_⟩
  simp only[Instr.endRound,Instr.getLoop,bind_eq,au,bind_assoc]
  refine⟨L .busy none,.inr (List.mem_append_right _ (List.mem_cons_self ..)),(fun _ _ _=>by simp[L]),rfl,?_⟩
  refine⟨L .busy none,A₂,[],rfl,(fun _ _ _=>by simp[L]),rfl,?_⟩
  cases he:ex s p with
  | none=>
   refine⟨by simp[BN,he],Bg++[(l,L .ready none)],hsb.app .refl,?_⟩
   simp only[BN,he]
   exact⟨rfl,Bg,BO,rfl⟩
  | some e=>
   obtain⟨c,hc⟩:=Option.isSome_iff_exists.1 (hex s p e he)
   have hj:(some e:Option Exit).bind tK=some c:=hc
   refine⟨by simp[BN,he,hc],Bg++[(l,L .done (some c))],?_,?_⟩
   ·rw[hj];exact hsb.app .refl
   ·simp only[BN,he]
    exact⟨Bg,c,BO,hj,rfl⟩
 ·rintro _ A' ⟨B,hsub,hB⟩
  refine⟨B,hsub,?_⟩
  generalize hr:runs (BN st ex) (s₀,none) xs=r at hB
  obtain⟨⟨s,e⟩,b⟩:=r
  have hrs:=IX hr
  have haft:=fun A hA=>after s e A (by rw[hr]) hA d
  simp only[Instr.endLoop,Instr.getLoop,bind_eq,au,bind_assoc]
  cases b with
  | true=>
   obtain⟨he,A,hA,rfl⟩:=hB
   simp only at he
   subst he
   refine⟨L .ready none,.inr (List.mem_append_left _ (List.mem_append_right _ (List.mem_cons_self ..))),(fun _ _ _=>by simp[L]),rfl,?_⟩
   refine⟨L .ready none,A,(d,.deferred (some []))::g_ [],by simp,(fun _ _ _=>by simp[L]),rfl,?_⟩
   refine⟨(d,.deferred (some []))::g_ A,?_,haft A hA⟩
   refine Sb.trans (Sb.dF ((hs.perm.2 A).cons _)) ?_
   refine(Sb.dF List.perm_middle.symm).trans (Sb.app .refl (Sb.skip rfl .refl))
  | false=>
   obtain⟨A,c,hA,hc,rfl⟩:=hB
   simp only at hc
   obtain⟨e,rfl,he⟩:=Option.bind_eq_some_iff.1 hc
   refine⟨L .done (some c),.inr (List.mem_append_left _ (List.mem_append_right _ (List.mem_cons_self ..))),(fun _ _ _=>by simp[L]),rfl,?_⟩
   refine⟨L .done (some c),A,(d,.deferred (some []))::g_ [],by simp,(fun _ _ _=>by simp[L]),rfl,?_⟩
   show W x c Q ρ (mark d::ds) _
   refine W.sb (F':=(d,.deferred (some []))::g_ A) ?_ ?_
   ·refine Sb.trans (Sb.dF ((hs.perm.2 A).cons _)) ?_
    refine(Sb.dF List.perm_middle.symm).trans (Sb.app .refl (Sb.skip rfl .refl))
   ·have q:=haft A hA
    cases e <;>simp only[tK,Option.some.injEq]at he <;>first | (cases he;done) | subst he
    ·exact W.exit q
    ·exact W.goto q
    ·exact W.ret q
end Go.aS
