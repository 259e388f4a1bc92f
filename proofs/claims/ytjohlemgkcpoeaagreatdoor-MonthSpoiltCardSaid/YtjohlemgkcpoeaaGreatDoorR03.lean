/- Loops over functions. Conditions: none; over any program. (And 9 texts more.) -/
import Derived.Test.YtjohlemgkcpoeaaGreatDoorR02
import Derived.Conc.CrowdComm
import Derived.Conc.Know
import Derived.Conc.Quits
import Init
import Derived.Test.YtjohlemgkcpoeaaGreatDoorR01
import Derived.Conc.ClockLaws
import Derived.Conc.CrowdTrace
import Derived.Conc.CrowdCom2
import Derived.Conc.MuSpec
set_option linter.unusedVariables false
set_option linter.unusedSimpArgs false
set_option linter.unusedSectionVars false
set_option maxRecDepth 100000
set_option maxHeartbeats 4000000

namespace Go.jc
variable{A F:ah}{E:TypeId}{E' b wO cap g hi i lo t':Nat}{M:Nat->Prop}{P:Program}{Q:Array Value->ah->Prop}{X σ:Type}{a:Option Addr}{bd us:Code}{c zc:Array Value}{ds:List Deferred}{e:Event}{enc:X->Value}{es LM:Array Event}{f:Operand}{fv v z:Value}{h h' k:Hp}{params:Array Tmp}{rest xs:List X}{t u:Trace}{x:Cx}{ρ:Env}{nx:X->σ->Prop}{s:σ}
theorem W.frame{c:Code}{Q:fO}{B:ah}(H:∀h',Ext x.h h'->je B h'->W {x with h:=h'} c Q ρ ds A):
  W x c (fun e ρ ds F'=>∃A',Q e ρ ds A'/\F'=A'++B) ρ ds (A++B):=by
 intro b k cs Stop tmps hk M h1 h0 h2 h3 h4 h5 hc;obtain⟨S1,e1,e2⟩:=h5.Cm;refine H _ e1 e2 b k cs Stop tmps hk M h1 h0 h2 h3 h4 S1 fun e gW iT A' bC fA M' q a1 a2 a3 a4=>?_;obtain⟨a,b⟩:=h5.back a3 a4;exact hc e gW iT _ bC fA M' ⟨A',q,O⟩ a1 a2 a b

section steps
variable{P:Program}{main:aN}{b:Frame}{t:Array Value}{ds:List Deferred}{k:List Item}{cs:List Frame}{w fE mJ:World}
def R_(f:Operand)(l:Nat):Call:={callee:=.value f,args:= #[.const (.func (.yield l) #[] #[])],argTypes:= #[]}

theorem L9{g:Goroutine}{w:World}:GStep.after es (.go g w LM)= .go g w (es++LM):=rfl

theorem Yj{f:Operand}{l:Nat}{mark:List Deferred}(hr:(Instr.enterLoop b.fn t params us bd b.roundOf).runT P w #[]=(.ok (l,mark) fE,es)):
  stepG P main.b (G (dR b t ds (.code (.rangeFunc f params us bd)::k)) cs) w=
   GStep.after (seen P b.fn es) (stepG.apply P true (dR b t (mark++ds) (.inRangeFunc l::k)) cs none ((resolve (dR b t (mark++ds) (.inRangeFunc l::k)).eval (R_ f l) 0).bind fun d=>invoke d.target d.args) fE):=by
 simp only[Conc.G,stepG,stepG.exec,dR,hr]
 rfl

theorem Qn{l:Nat}{afL:Option Code}(hr:(Instr.endLoop l).runT P w #[]=(.ok afL fE,es)):
  stepG P main.b (G (dR b t ds (.endRangeFunc l::k)) cs) w= .go (G (dR b t ds ((afL.map Item.code).toList++k)) cs) fE (seen P b.fn es):=by
 simp only[Conc.G,stepG,stepG.exec,dR,hr]
 rfl

theorem Yk{fr:Frame}{s:Sem Next}{w w':World}{f:FuncId}{args:Array Value}(r:s.runT P w #[]=(.ok (.enter f args) w',es))(hk:(fr.kind==CallKind.early)=false)
  (ht:∃l k,fr.todo= .inRangeFunc l::k):stepG.apply P true fr cs none s w= .go (G (Frame.enter P f args .normal) (fr::cs)) w' (seen P fr.fn es):=by
 obtain⟨l,k,ht⟩:=ht;unfold stepG.apply;simp only[r,hk,if_true,ht]
 rfl

end steps
def mark(d:Nat):Deferred:={target:=.collected d,args:= #[]}

theorem iR.seq{w fE mJ:World}(h1:iR k M w fE es)(h2:iR (snap k w fE) (grown M w fE) fE mJ LM):iR k M w mJ (es++LM):=h1.trans h2

theorem W.rangeFunc{Q:fO}(hf:ev ρ f=some fv)(FK:x.ro=none)
  (
   H:∀tmps,jf ρ tmps->tmps.size=x.n->∀l d,∃A B R',(A++B).Perm ((l,.loop {state:=.ready,pending:=none,fn:=x.fn,tmps,params,assign:=us,body:=bd,defers:=d})::(d,.deferred (some []))::F)/\
   (∀h',Ext x.h h'->je B h'->gG x.P x.main fv [.func (.yield l) #[] #[]] h' A R')/\
   (∀v A',R' v A'->∃afM,Sb afM A'/\tr x.P x.h (Instr.endLoop l) (afM++B) fun afL acK=>match afL with | none=>∃afH,Sb afH acK/\Q .normal ρ (mark d::ds) afH | some c=>W x c Q ρ (mark d::ds) acK)):W x (.rangeFunc f params us bd) Q ρ ds F:=by
 intro b k cs Stop tmps hk M h1 h0 h2 h3 h4 h5 hc;have fA:(b.kind==CallKind.early)=false:=by simpa using h2.1
 refine .tY ⟨O,fun w hw hM=>?_⟩
 
 have htr:tr x.P x.h (Instr.enterLoop b.fn tmps params us bd b.roundOf) F fun lm vG=>∃d,lm.2=[mark d]/\vG=(lm.1,.loop {state:=.ready,pending:=none,fn:=x.fn,tmps,params,assign:=us,body:=bd,defers:=d})::(d,.deferred (some []))::F:=by
  rw[h0,FK,h1];refine⟨fun e=>(by cases e),fun d _ _=>⟨fun e=>(by cases e),fun l _ _=>⟨d,rfl,rfl⟩⟩⟩
 obtain⟨⟨l,mk⟩,vG,fE,es,r1,r2,r3,r4,d,e1,rfl⟩:=oh _ #[] htr h5 hw hM;simp only at e1;subst e1;rw[Array.empty_append]at r1;obtain⟨A,B,R',hs,ar7,aoS⟩:=H tmps h3 h4 l d;have S0:=r3.perm hs;obtain⟨S1,x1,x2⟩:=S0.Cm;obtain⟨fn,fi,ca,rfl,hinv⟩:=ar7 _ x1 x2;have hev:(dR b tmps ([mark d]++ds) (.inRangeFunc l::k)).eval f= .func fn fi ca:=h3.ev hf
 have av2:((resolve (dR b tmps ([mark d]++ds) (.inRangeFunc l::k)).eval (R_ f l) 0).bind fun d=>invoke d.target d.args)=invoke (.fn fn ca) (fi++[Value.func (.yield l) #[] #[]].toArray):=by
  simp only[resolve,R_,hev,Deferred.ofValue,bind_eq,au,bind_pure,List.map_toArray,dQ,List.map_nil]
  rfl
 obtain⟨nx,afM,mJ,PL,s1,s2,s3,s4,s5⟩:=oh _ #[] hinv S1 (wL hw r2) (Cj hw hM r2.size);rw[Array.empty_append]at s1;rw[Yj r1,av2]
 
 have on:∀v G (ou:Hp) (oV:Nat->Prop),R' v G->Sat (Cm x.h B) G ou oV->Fr (grown M w fE) A oV G->Gs x.P x.main Stop (jc.G (dR b tmps ([mark d]++ds) (.endRangeFunc l::k)) cs) ou oV:=by
  intro v G ou oV r RH RI;obtain⟨afM,bF,aoS⟩:=aoS v G r;obtain⟨av3,aoL⟩:=S0.back (RH.sb bF) (RI.sb bF);refine .tY ⟨O,fun av4 ar8 ar9=>?_⟩;obtain⟨afL,av5,ar_,ayU,t1,t2,t3,t4,t5⟩:=oh _ #[] aoS av3 ar8 ar9;rw[Array.empty_append]at t1;have hfr:Fr M F (grown oV av4 ar_) av5:=r4.trans ((aoL.sub fun _ y=>hs.subset y).trans t4);refine⟨_,ar_,_,Qn t1,t2.mem fun _=>mem_seen,?_⟩
  cases afL with
  | none=>
   obtain⟨afH,q1,q2⟩:=t5;exact hc .normal ρ _ afH tmps _ _ q2 h3 h4 (t3.sb q1) (hfr.sb q1)
  | some c=>exact t5 b k cs Stop tmps _ _ h1 h0 h2 h3 h4 t3 fun e gW iT G' bC fA M' q a1 a2 a3 a4=>hc e gW iT G' bC fA M' q a1 a2 a3 (hfr.trans a4)
 have hg:iR hk M w mJ (seen x.P b.fn es++seen x.P b.fn PL):=by
  have g1:iR hk M w fE (seen x.P b.fn es):=r2.mem fun _=>mem_seen;have g2:iR (snap hk w fE) (grown M w fE) fE mJ (seen x.P b.fn PL):=s2.mem fun _=>mem_seen;exact g1.trans g2
 have e5:snap (snap hk w fE) fE mJ=snap hk w mJ:=WB hw r2.size s2.size s2.lJ;have e6:grown (grown M w fE) fE mJ=grown M w mJ:=Gx r2.size s2.size;rw[e5,e6]at s3;rw[e6]at s4
 cases nx with
 | value v=>exact⟨_,mJ,_,by rw[oW (fr:=dR b tmps ([mark d]++ds) (.inRangeFunc l::k)) s1 fA,L9];rfl,hg,on v afM _ _ s5 s3 s4⟩
 | skip=>exact⟨_,mJ,_,by rw[D6 (fr:=dR b tmps ([mark d]++ds) (.inRangeFunc l::k)) s1 fA,L9];rfl,hg,on undef afM _ _ s5 s3 s4⟩
 | enter f args=>exact⟨_,mJ,_,by rw[Yk (fr:=dR b tmps ([mark d]++ds) (.inRangeFunc l::k)) s1 fA ⟨_,_,rfl⟩,L9];rfl,hg,s5 (dR b tmps ([mark d]++ds) (.inRangeFunc l::k)) cs Stop _ _ s3 fun v G ou oV r RH RI=>on v G ou oV r RH (s4.trans RI)⟩
 | round l' f tm as' bd'=>exact⟨_,mJ,_,by rw[Pz (fr:=dR b tmps ([mark d]++ds) (.inRangeFunc l::k)) s1 fA,L9];rfl,hg,s5 (dR b tmps ([mark d]++ds) (.inRangeFunc l::k)) cs Stop _ _ s3 fun v G ou oV r RH RI=>on v G ou oV r RH (s4.trans RI)⟩
 | _=>exact s5.elim

def Part(c:Array Value)(off:Nat)(xs:List Value):Prop:=∃pre post,c.toList=pre++(xs++post)/\pre.length=off

theorem Part.len{off:Nat}{xs:List Value}(h:Part c off xs):off+xs.length<=c.size:=by
 obtain⟨pre,post,h1,h2⟩:=h;have:c.size=c.toList.length:=by simp
 rw[this,h1];simp;omega
theorem Part.get{off j:Nat}{xs:List Value}(h:Part c off xs)(hj:j<xs.length):c[off+j]? =xs[j]? :=by
 obtain⟨pre,post,h1,h2⟩:=h;have:c[off+j]? =c.toList[off+j]? :=by simp
 rw[this,h1,List.getElem?_append_right aj,List.getElem?_append_left aj]
 congr 1;omega
theorem Part.sub{off:Nat}{a b d:List Value}(h:Part c off (a++(b++d))):Part c (off+a.length) b:=by
 obtain⟨pre,post,h1,h2⟩:=h;exact⟨pre++a,d++post,by rw[h1];simp,by simp;omega⟩
theorem Part.extract{off:Nat}{xs:List Value}(h:Part c off xs):c.extract off (off+xs.length)=xs.toArray:=by
 obtain⟨pre,post,h1,h2⟩:=h;apply Array.ext';rw[Array.toList_extract,h1];simp[List.extract,h2.symm]
theorem Part.all(xs:List Value):Part xs.toArray 0 xs:=⟨[],[],by simp,O⟩
class Rw{α:Type}(row:α->List Value)(w:outParam Nat):Prop where
 len:∀p,(row p).length=w
 lC:∀p,lC (row p)=true

def bY(n:Int):List Value:=[.int .i64 n]
instance:Rw bY 1:=⟨fun _=>rfl,fun _=>rfl⟩

section
variable{α:Type}{row:α->List Value}{w:Nat}[rw':Rw row w]
def flat(row:α->List Value)(l:List α):List Value:=l.flatMap row
theorem iW(p:α)(l:List α):flat row (p::l)=row p++flat row l:=rfl
theorem wR(l l':List α):flat row (l++l')=flat row l++flat row l':=List.flatMap_append
theorem ah3(p:α):flat row [p]=row p:=by simp[flat]
theorem gU(l:List α):(flat row l).length=l.length*w:=by
 induction l with
 | nil=>simp[flat]
 | cons p l ih=>rw[iW,jA,Rw.len,ih,gK,Nat.succ_mul];omega
theorem Si:∀(a b:List Value),lC (a++b)=(lC a&&lC b)
 | [],b=>rfl
 | u::a,b=>by simp[jc.lC,Si a b,Bool.and_assoc]
include rw' in
theorem sH(l:List α):jc.lC (flat row l)=true:=by
 induction l with
 | nil=>rfl
 | cons p l ih=>rw[iW,Si,rw'.lC,ih];rfl

theorem acV{l:List α}{p:α}(h:l[i]? =some p):flat row l=flat row (l.take i)++(row p++flat row (l.drop (i+1))):=by
 have fK:i<l.length:=by
  rcases bQ i l.length with h' | h'
  ·exact h'
  rw[fM h']at h;cases h
 have e:l=l.take i++(p::l.drop (i+1)):=by
  rw[jh fK,dY]at h;rw[<-h,List.getElem_cons_drop,List.take_append_drop]
 conv=>lhs;rw[e]
 rw[wR,iW]

theorem Part.wS{off:Nat}{l:List α}{p:α}(h:Part c off (flat row l))(hi:l[i]? =some p):Part c (off+i*w) (row p):=by
 have fK:i<l.length:=by
  rcases bQ i l.length with h' | h'
  ·exact h'
  rw[fM h']at hi;cases hi
 rw[acV hi]at h;have:=h.sub;rwa[gU,List.length_take,Nat.min_eq_left aj]at this
theorem Part.afN{off:Nat}{l:List α}{p:α}(h:Part c off (flat row l))(hi:l[i]? =some p):c.extract (off+i*w) (off+i*w+w)=(row p).toArray/\off+i*w+w<=c.size:=by
 have h1:=h.wS hi;have h2:=h1.extract;have h3:=h1.len;rw[Rw.len (row:=row) (w:=w)]at h2 h3;exact⟨h2,h3⟩

def Sl(h:Hp)(row:α->List Value)(v:Value)(l:List α):Prop:=
 ∃a cap,v= .slice a l.length cap/\(l≠[]->∃b off c E fz,a=some ⟨b,off,none⟩/\h b=some (.cells c E fz)/\Part c off (flat row l))

omit rw' in
theorem Sl.ext(e:Ext h h'){l:List α}(H:Sl h row v l):Sl h' row v l:=by
 obtain⟨a,cap,h1,h2⟩:=H;refine⟨a,cap,h1,fun hl=>?_⟩;obtain⟨b,off,c,E,fz,h3,h4,h5⟩:=h2 hl;exact⟨b,off,c,E,fz,h3,e.1 _ _ h4,h5⟩
omit rw' in
theorem Sl.nil:Sl h row (.slice a 0 cap) []:=⟨a,cap,O,fun h=>absurd O h⟩
omit rw' in
theorem Sl.mk{off n:Nat}{fz:Nat×Nat}{l:List α}(hb:h b=some (.cells c E fz))(hn:n=l.length)(hp:Part c off (flat row l)):Sl h row (.slice (some ⟨b,off,none⟩) n cap) l:=
 ⟨_,cap,by rw[hn],fun _=>⟨b,off,c,E,fz,O,hb,hp⟩⟩
omit rw' in
theorem Sl.len{n:Nat}{l:List α}(H:Sl h row (.slice a n cap) l):n=l.length:=by
 obtain⟨a',f_,h1,_⟩:=H
 cases h1;rfl

def Os(E:TypeId)(row:α->List Value)[Rw row w](v:Value)(l:List α)(A:ah):Prop:=
 (l=[]/\v= .slice none 0 0/\eH A)\/∃β c cap J,v= .slice (some ⟨β,0,none⟩) l.length cap/\A=(β,.cells c E (0,0))::J/\c.size=cap*w/\l.length<=cap/\Part c 0 (flat row l)/\eH J

theorem Os.nil(h:eH A):Os E row (.slice none 0 0) [] A:=.inl ⟨rfl,rfl,h⟩
theorem Os.shut{l:List α}(H:Os E row v l A):eH A:=by
 rcases H with⟨_,_,h⟩ | ⟨β,c,cap,J,_,rfl,_,_,_,h⟩
 ·exact h
 exact .cons O h
theorem Os.sl{l:List α}(H:Os E row v l A)(hl:je A h):Sl h row v l:=by
 rcases H with⟨rfl,rfl,_⟩ | ⟨β,c,cap,J,rfl,rfl,h1,h2,h3,_⟩
 ·exact .nil
 exact .mk (hl β (.cells c E (0,0)) (by simp)) O h3
theorem Os.aU{l:List α}(H:Os E row v l A):∃a cap,v= .slice a l.length cap:=by
 rcases H with⟨rfl,rfl,_⟩ | ⟨β,c,cap,J,rfl,rfl,h1,h2,h3,_⟩
 ·exact⟨_,_,O⟩
 exact⟨_,_,O⟩

theorem GV{l:List α}(H:Sl h row v l)(K:Q (flat row l).toArray F):tr P h (Builtin.firstCells w l.length v) F Q:=by
 obtain⟨a,cap,rfl,h2⟩:=H
 cases l with
 | nil=>
  cases a with
  | none=>exact K
  | some a=>simp only[Builtin.firstCells,List.length_nil,Nat.zero_mul,loadCells,loadCellsFrom];exact K
 | cons p l=>
  obtain⟨b,off,c,E,fz,rfl,h4,h5⟩:=h2 (by simp);have h6:=h5.len;have h7:=h5.extract;rw[gU]at h6 h7;simp only[Builtin.firstCells,loadCells];refine jL (.inl h4) _ 0 #[] aj ?_;simp only[Nat.add_zero,Array.empty_append];rw[h7];exact K

theorem afO{l:List α}(H:Os E row v l A)(K:Q (flat row l).toArray A):tr P h (Builtin.firstCells w l.length v) A Q:=by
 rcases H with⟨rfl,rfl,_⟩ | ⟨β,c,cap,J,rfl,rfl,h1,h2,h3,_⟩
 ·exact K
 have h6:=h3.len;have h7:=h3.extract;rw[gU]at h6 h7;simp only[Builtin.firstCells,loadCells];refine jL (.inr (bT ..)) _ 0 #[] aj ?_;simp only[Nat.add_zero,Array.empty_append];rw[h7];exact K

theorem WL(n:Nat):∀(r c:Nat),c<=n->Builtin.growBy n r c<=2*n+768
 | 0,c,h=>by simp[Builtin.growBy];omega
 | r+1,c,h=>by
  unfold Builtin.growBy;split
  ·omega
  rename_i hc;by_cases h1:c+(c+768) / 4<=n
  ·exact WL n r _ h1
  cases r with
  | zero=>simp[Builtin.growBy];omega
  | succ r=>unfold Builtin.growBy;rw[if_pos aj];omega
theorem Sj{aoU:Nat}(h:cap<aoU):Builtin.nextslicecap aoU cap<=2*aoU+768:=by
 unfold Builtin.nextslicecap;split
 ·omega
 split
 ·omega
 exact WL _ _ _ aj

theorem AQ:∀(vs:List Value) (c:Array Value) {xs:List Value},Part c 0 xs->xs.length+vs.length<=c.size->Part (gQ c xs.length vs) 0 (xs++vs)
 | [],c,xs,h,_=>by simpa[gQ]using h
 | u::r,c,xs,h,hn=>by
  simp only[gK]at hn
  have h':Part (c.setIfInBounds xs.length u) 0 (xs++[u]):=by
   obtain⟨pre,post,h1,h2⟩:=h;have hp:pre=[]:=jy.1 h2;subst hp
   cases post with
   | nil=>
    have:c.size=c.toList.length:=by simp
    rw[this,h1]at hn;simp at hn;omega
   | cons y post=>
    refine⟨[],post,?_,O⟩;rw[Array.toList_setIfInBounds,h1];simp
  have:=AQ r (c.setIfInBounds xs.length u) h' (by simp;omega);simpa[gQ]using this

theorem GX{n:Nat}:(Builtin.zeroCells zc n).size=n*zc.size:=by simp[Builtin.zeroCells]

theorem afP{t ty E:Nat}[TD P t (.slice E)][TD P t' (.slice E')][TI P E w wO z zc]{x:Value}{l l':List α}{Q:Value->ah->Prop}(hzc:zc.size=w)
  (hs:Os E row v l A) (hx:Sl h row x l') (hb:(2*(l.length+l'.length)+768)*wO<=2 ^ 48) (hby:0<wO)
  (K:∀v' A',Os E row v' (l++l') A'->Q v' A'):tr P h (Builtin.append_ #[t,t'] ty #[v,x]) A Q:=by
 obtain⟨j,hj,hj1,hj2,hj3,hj4⟩:=TI.out (inferInstance:TI P E w wO z zc)
 have hm:((l.length+l'.length:Nat):Int)<=IntKind.i64.max:=by
  have h1:(2*(l.length+l'.length)+768)*1<=(2*(l.length+l'.length)+768)*wO:=Nat.mul_le_mul_left _ hby;have h2:IntKind.i64.max=9223372036854775807:=rfl;omega
 obtain⟨ax,J9,Sz,_⟩:=id hx;obtain⟨a,cap,hv⟩:=hs.aU;subst hv Sz;have e1:(#[t,t']:Array TypeId)[0]? =some t:=rfl;have e2:(#[t,t']:Array TypeId)[1]? =some t':=rfl;have e3:(#[Value.slice a l.length cap,Value.slice ax l'.length J9]:Array Value)[0]? =some (.slice a l.length cap):=rfl;have e4:(#[Value.slice a l.length cap,Value.slice ax l'.length J9]:Array Value)[1]? =some (.slice ax l'.length J9):=rfl;simp only[Builtin.append_,e1,e2,e3,e4,bind_eq,au,bind_assoc,bind_pure,aF,fF,eU,if_false,Builtin.lenOf,Bool.not_false,if_true];by_cases hc:l.length+l'.length<=cap
 ·rw[if_pos hc];refine cu (GV hx ?_);rcases hs with⟨rfl,he,yu⟩ | ⟨β,c,f_,J,he,rfl,h1,h2,h3,yu⟩
  ·cases he
   have:l'=[]:=jy.1 (by simp at hc;simp[hc]);subst this;exact K _ A (.nil yu)
  cases he
  have hl3:=gU (row:=row) l;have ah4:=gU (row:=row) l';have hle:l.length*w+l'.length*w<=c.size:=by rw[h1,<-Nat.add_mul];exact Nat.mul_le_mul_right _ hc
  have ea:(⟨β,0,none⟩:Addr).add (l.length*w)=⟨β,l.length*w,none⟩:=by rw[kF O];simp
  simp only[ea];refine cu (l9 (flat row l') 0 c (sH l') At.head (by rw[ah4];simp;omega) ?_);refine K _ _ (.inr ⟨β,gQ c (l.length*w) (flat row l'),cap,J,by rw[jA],by simp,by rw[wQ,h1],by rw[jA];exact hc,?_,yu⟩);rw[wR,<-hl3];exact AQ _ _ h3 (by rw[hl3,ah4];exact hle)
 rw[if_neg hc];have c1:¬(((l.length+l'.length:Nat):Int)>IntKind.i64.max/\(false=true\/(wO:Nat)=0)):=by omega
 have c2:¬Builtin.nextslicecap (l.length+l'.length) cap*wO>2 ^ 48:=by
  have:=Sj (show cap<l.length+l'.length by omega);have:=Nat.mul_le_mul_right wO this;omega
 simp only[iO hj,hj2];have c1':¬(((l.length+l'.length:Nat):Int)>IntKind.i64.max):=by omega
 simp only[c1',false_and,if_false];rw[iO hj,hj2,if_neg c2];intro n ⟨tp,hn⟩;have GN:l.length+l'.length<=n:=by rw[hn];simp only[Question.cut];omega
 clear hn c2;show tr P h (Sem.bind (typeInfo E) _) A Q;rw[iO hj,hj2]
 
 have room:∀{β:Type} {f:Unit->Sem β} {Q':β->ah->Prop},tr P h (f ()) A Q'->tr P h ((askRoom (n*wO)).bind f) A Q':=by
  intro β f Q' H;unfold askRoom;split
  ·exact⟨O,H⟩
  exact H
 refine room (cu (afO hs (cu (GV hx ?_))));simp only[jQ,hj4,newRow,bind_eq,au,bind_assoc,bind_pure];refine D_ fun r _ _=>?_;refine K _ _ (.inr ⟨r,_,n,A,by rw[jA],O,?_,by rw[jA];exact GN,?_,hs.shut⟩)
 ·simp only[Array.size_append,List.size_toArray,gU,GX,hzc,<-Nat.add_mul]
  congr 1;omega
 refine⟨[],(Builtin.zeroCells zc (n- (l.length+l'.length))).toList,?_,O⟩;rw[wR];simp only[Array.toList_append,List.nil_append,eF]
end
section rules
variable{x:Cx}{ρ:Env}{F:ah}{o:Oper}{R:Value->ah->Prop}{α:Type}{row:α->List Value}{w:Nat}[rw':Rw row w]
theorem bV{t E:Nat}{y yx:Operand}{xv:Value}{l l':List α}{U:ah->ah}(ho:o.op= .call ⟨.builtin .append, #[y,yx], #[t,t']⟩)[TD x.P t (.slice E)][TD x.P t' (.slice E')][TI x.P E w wO z zc]
  (hy:ev ρ y=some v) (hx:ev ρ yx=some xv) (hs:Os E row v l A) (hg:L8 A F U) (aoY:∀h',Ext x.h h'->je (U []) h'->Sl h' row xv l') (hb:(2*(l.length+l'.length)+768)*wO<=2 ^ 48) (hby:0<wO) (hzc:zc.size=w)
  (K:∀v' A',Os E row v' (l++l') A'->R v' (U A')):Ef x ρ o F R:=fun e he=>
 ⟨A,U [],hg.perm.1,fun h' e1 e2=>by
  simp only[execOp,ho,resolve,invoke,builtin,List.map_toArray,dQ,List.map_nil,he y _ hy,he yx _ hx,bind_eq,au,bind_pure];exact cu (afP hzc hs (aoY h' e1 e2) hb hby fun v' A' H=>⟨U A',hg.perm.2 A',K v' A' H⟩)⟩
end rules
def runs{σ X:Type}(step:σ->X->σ×Bool):σ->List X->σ×Bool
 | s,[]=>(s,true)
 | s,p::xs=>match step s p with
  | (s',true)=>runs step s' xs
  | (s',false)=>(s',false)

theorem GY{σ X:Type}(step:σ->X->σ×Bool):∀(s:σ) (xs ys:List X),runs step s (xs++ys)=match runs step s xs with | (s',true)=>runs step s' ys | (s',false)=>(s',false)
 | s,[],ys=>rfl
 | s,p::xs,ys=>by
  simp only[List.cons_append,runs];split
  ·exact GY step _ xs ys
  rfl

def Out{σ:Type}(J K:σ->ah->Prop)(r:σ×Bool)(A:ah):Prop:=∃B,Sb B A/\match r with | (s,true)=>J s B | (s,false)=>K s B

def Yld(P:Program)(main:aN)(yv:Value)(h:Hp){σ X:Type}(enc:X->Value)(nx:X->σ->Prop)(step:σ->X->σ×Bool)(J K:σ->ah->Prop):Prop:=
 ∀h',Ext h h'->∀s p A,nx p s->J s A->gG P main yv [enc p] h' A fun r A'=>r= .bool (step s p).2/\Out J K (step s p) A'
def SA{σ X:Type}(nx:X->σ->Prop)(step:σ->X->σ×Bool)(s:σ)(xs:List X):Prop:=∀pre p post s',xs=pre++p::post->runs step s pre=(s',true)->nx p s'
def ZY{σ X:Type}(step:σ->X->σ×Bool)(s:σ)(xs:List X)(t:σ)(rest:List X):Prop:=∃pre,xs=pre++rest/\runs step s pre=(t,true)
theorem ZY.zero{step:σ->X->σ×Bool}:ZY step s xs s xs:=⟨[],O,O⟩
theorem ZY.eq{step:σ->X->σ×Bool}{t:σ}(h:ZY step s xs t rest):runs step s xs=runs step t rest:=by
 obtain⟨pre,rfl,h2⟩:=h;rw[GY,h2]
theorem ZY.next{step:σ->X->σ×Bool}{t t':σ}{p:X}(h:ZY step s xs t (p::rest))(hs:step t p=(t',true)):ZY step s xs t' rest:=by
 obtain⟨pre,h1,h2⟩:=h;refine⟨pre++[p],by rw[h1];simp,?_⟩;rw[GY,h2];simp only[runs,hs]
theorem SA.far{step:σ->X->σ×Bool}{t:σ}{p:X}(ha:SA nx step s xs)(h:ZY step s xs t (p::rest)):nx p t:=by
 obtain⟨pre,h1,h2⟩:=h;exact ha _ _ _ _ h1 h2
theorem SA.mem{step:σ->X->σ×Bool}:SA (fun p _=>p∈xs) step s xs:=fun pre p post s' e _=>by rw[e];simp

theorem Ext.trans{a b c:Hp}(h:Ext a b)(h':Ext b c):Ext a c:=⟨fun _ _ x=>h'.1 _ _ (h.1 _ _ x),fun _ x=>h'.2 _ (h.2 _ x)⟩

theorem Yld.sub{main:aN}{yv:Value}{nx':X->σ->Prop}{step:σ->X->σ×Bool}{J K:σ->ah->Prop}(H:Yld P main yv h enc nx step J K)(e:Ext h h')(s:∀p s,nx' p s->nx p s):Yld P main yv h' enc nx' step J K:=
 fun Gm e' t p A hp=>H Gm (e.trans e') t p A (s p t hp)

def Iter(P:Program)(main:aN)(fv:Value){X:Type}(enc:X->Value)(xs:List X)(h:Hp):Prop:=
 ∀h',Ext h h'->∀(yv:Value),one yv=true->∀(σ:Type) (nx:X->σ->Prop) (step:σ->X->σ×Bool) (J K:σ->ah->Prop),Yld P main yv h' enc nx step J K->∀s A,SA nx step s xs->J s A->gG P main fv [yv] h' A fun _ A'=>Out J K (runs step s xs) A'

theorem Iter.ext{main:aN}(H:Iter P main fv enc xs h)(e:Ext h h'):Iter P main fv enc xs h':=
 fun Gm e'=>H Gm (e.trans e')

def J_:Option Exit->Exit
 | none=>.normal
 | some e=>e

def wU:Exit->Option Code
 | .exit id=>some (.exit id)
 | .goto l=>some (.goto l)
 | .ret=>some .ret
 | _=>none

theorem Bq{e:Option Exit}(he:∀x,e=some x->(wU x).isSome=true):X9 (J_ e)=some (e.bind wU):=by
 cases e with
 | none=>rfl
 | some x=>have:=he x rfl;cases x <;>first | rfl | cases this

def jD{σ X:Type}(st:σ->X->σ)(ex:σ->X->Option Exit):σ×Option Exit->X->(σ×Option Exit)×Bool:=fun s p=>((st s.1 p,ex s.1 p),(ex s.1 p).isNone)

theorem Ko{σ X:Type}{st:σ->X->σ}{ex:σ->X->Option Exit}:∀{xs:List X} {s:σ} {r:σ×Option Exit} {b:Bool},runs (jD st ex) (s,none) xs=(r,b)->r.2.isNone=b
 | [],s,r,b,h=>by cases h;rfl
 | p::xs,s,r,b,h=>by
  simp only[runs,jD]at h
  cases he:ex s p with
  | none=>simp only[he]at h;exact Ko h
  | some e=>simp only[he]at h;cases h;rfl

theorem W.range{Q:fO}{t:Tmp}(hf:ev ρ f=some fv)(FK:x.ro=none)(ht:Nat.blt t x.n=true)
  (st:σ->X->σ) (ex:σ->X->Option Exit) (D:σ->ah->Prop) (l7:σ) {A₀:ah} {kH:ah->ah} (hs:L8 A₀ F kH) (h0:D l7 A₀)
  (hi:∀h',Ext x.h h'->je (kH []) h'->Iter x.P x.main fv enc xs h')
  (hex:∀s p e,ex s p=some e->(wU e).isSome=true)
  (
   body:∀s p A,p∈xs->D s A->∀l h',Ext x.h h'->je (kH []) h'->W {x with ro:=some l,h:=h'} us (fun e Aw Az vG=>e= .normal/\Az=[]/\∀h',Ext x.h h'->je (kH []) h'->
   W {x with ro:=some l,h:=h'} bd (fun e _ nO qK=>nO=[]/\e=J_ (ex s p)/\∃B,D (st s p) B/\Sb B qK) Aw [] vG) ((t,enc p)::ρ) [] A)
  (after:∀s e A,(runs (jD st ex) (l7,none) xs).1=(s,e)->D s A->∀d,Q (J_ e) ρ (mark d::ds) ((d,.deferred (some []))::kH A)):W x (.rangeFunc f #[t] us bd) Q ρ ds F:=by
 refine W.rangeFunc hf FK fun tmps LD oH l d=>?_
 let L (s:LoopState) (pd:Option Code):Obj:=.loop {state:=s,pending:=pd,fn:=x.fn,tmps,params:= #[t],assign:=us,body:=bd,defers:=d}
 let J:σ×Option Exit->ah->Prop:=fun s A=>s.2=none/\∃B,D s.1 B/\A=B++[(l,L .ready none)]
 let K:σ×Option Exit->ah->Prop:=fun s A=>∃B c,D s.1 B/\s.2.bind wU=some c/\A=B++[(l,L .done (some c))]
 
 refine⟨A₀++[(l,L .ready none)],(d,.deferred (some []))::kH [],fun _ A'=>Out J K (runs (jD st ex) (l7,none) xs) A',?_,?_,?_⟩
 ·refine(dK.append_right _).trans ?_;refine List.Perm.cons _ ?_;exact List.perm_middle.trans (hs.perm.1.cons _)
 ·intro h' e1 e2;have e3:je (kH []) h':=fun b o hb=>e2 b o (dH _ hb);refine hi h' e1 e3 h' ⟨fun _ _ z=>z,fun _ z=>z⟩ _ O (σ×Option Exit) (fun p _=>p∈xs) (jD st ex) J K ?_ (l7,none) _ SA.mem ⟨O,A₀,h0,O⟩
  
  rintro Gm e4 ⟨s,e⟩ p A hp ⟨rfl,B,hB,rfl⟩;have hE:Ext x.h Gm:=e1.trans e4;have hL:je (kH []) Gm:=fun b o hb=>e4.1 _ _ (e3 b o hb);refine⟨_,_,_,O,?_⟩;simp only[invoke,Instr.yield,Instr.getLoop,bind_eq,au,bind_assoc];refine⟨L .ready none,.inr (bZ _ (bT ..)),(fun _ _ _=>by simp[L]),O,?_⟩;have ez:Array.foldl (fun(tmps:Array Value) (x:Tmp×Value)=>tmps.setIfInBounds x.1 x.2) tmps (#[t].zip #[enc p])=tmps.setIfInBounds t (enc p):=by simp
  show tZ x.P x.main Gm _ (.round l x.fn (Array.foldl (fun(tmps:Array Value) (x:Tmp×Value)=>tmps.setIfInBounds x.1 x.2) tmps (#[t].zip #[enc p])) us bd) _;rw[ez];have fK:t<tmps.size:=by rw[oH];exact Nat.le_of_ble_eq_true ht
  have ah5:jf ((t,enc p)::ρ) (tmps.setIfInBounds t (enc p)):=LD.put fK _;have acW:(tmps.setIfInBounds t (enc p)).size=x.n:=by simpa using oH
  show Rnd x.P x.main l x.fn (tmps.setIfInBounds t (enc p)) us bd Gm _ _;refine Rnd.gX _ ah5 ?_;rw[acW]
  
  refine(W.frame (x:={x with ro:=some l,h:=Gm}) fun SE e5 _=>body s p B hp hB l SE (hE.trans e5) (fun b o hb=>e5.1 _ _ (hL b o hb))).mono ?_;rintro e Aw Az vG ⟨A',⟨rfl,rfl,hbd⟩,rfl⟩;refine⟨O,O,?_⟩;simp only[Instr.beginRound,Instr.getLoop,bind_eq,au,bind_assoc];refine⟨L .ready none,.inr (bZ _ (bT ..)),(fun _ _ _=>by simp[L]),O,?_⟩;refine⟨L .ready none,A',[],O,(fun _ _ _=>by simp[L]),O,?_⟩;show W _ _ _ _ _ (A'++[(l,L .busy none)])
  
  refine(W.frame (x:={x with ro:=some l,h:=Gm}) fun SE e5 _=>hbd SE (hE.trans e5) (fun b o hb=>e5.1 _ _ (hL b o hb))).mono ?_;rintro e Fa nO qK ⟨afQ,⟨rfl,rfl,Kq,GZ,bF⟩,rfl⟩;refine⟨O,(ex s p).bind wU,Bq fun e he=>hex s p e he,?_⟩;simp only[Instr.endRound,Instr.getLoop,bind_eq,au,bind_assoc];refine⟨L .busy none,.inr (bZ _ (bT ..)),(fun _ _ _=>by simp[L]),O,?_⟩;refine⟨L .busy none,afQ,[],O,(fun _ _ _=>by simp[L]),O,?_⟩
  cases he:ex s p with
  | none=>
   refine⟨by simp[jD,he],Kq++[(l,L .ready none)],bF.app .refl,?_⟩;simp only[jD,he];exact⟨O,Kq,GZ,O⟩
  | some e=>
   obtain⟨c,hc⟩:=iJ.1 (hex s p e he);have hj:(some e:Option Exit).bind wU=some c:=hc;refine⟨by simp[jD,he,hc],Kq++[(l,L .done (some c))],?_,?_⟩
   ·rw[hj];exact bF.app .refl
   simp only[jD,he];exact⟨Kq,c,GZ,hj,O⟩
 rintro _ A' ⟨B,qB,hB⟩;refine⟨B,qB,?_⟩;generalize hr:runs (jD st ex) (l7,none) xs=r at hB;obtain⟨⟨s,e⟩,b⟩:=r;have hrs:=Ko hr;have ah6:=fun A hA=>after s e A (by rw[hr]) hA d;simp only[Instr.endLoop,Instr.getLoop,bind_eq,au,bind_assoc]
 cases b with
 | true=>
  obtain⟨he,A,hA,rfl⟩:=hB;simp only at he;subst he;refine⟨L .ready none,.inr (jm _ (bZ _ (bT ..))),(fun _ _ _=>by simp[L]),O,?_⟩;refine⟨L .ready none,A,(d,.deferred (some []))::kH [],by simp,(fun _ _ _=>by simp[L]),O,?_⟩;refine⟨(d,.deferred (some []))::kH A,?_,ah6 A hA⟩;refine Sb.trans (Sb.aT ((hs.perm.2 A).cons _)) ?_;refine(Sb.aT List.perm_middle.symm).trans (Sb.app .refl (Sb.skip O .refl))
 | false=>
  obtain⟨A,c,hA,hc,rfl⟩:=hB;simp only at hc;obtain⟨e,rfl,he⟩:=Option.bind_eq_some_iff.1 hc;refine⟨L .done (some c),.inr (jm _ (bZ _ (bT ..))),(fun _ _ _=>by simp[L]),O,?_⟩;refine⟨L .done (some c),A,(d,.deferred (some []))::kH [],by simp,(fun _ _ _=>by simp[L]),O,?_⟩;show W x c Q ρ (mark d::ds) _;refine W.sb (F':=(d,.deferred (some []))::kH A) ?_ ?_
  ·refine Sb.trans (Sb.aT ((hs.perm.2 A).cons _)) ?_;refine(Sb.aT List.perm_middle.symm).trans (Sb.app .refl (Sb.skip O .refl))
  have q:=ah6 A hA
  cases e <;>simp only[wU,dY]at he <;>first | (cases he;done) | subst he
  ·exact W.exit q
  ·exact W.goto q
  exact W.ret q
open Go.Conc (Before Knows knows_own touchAt touchAt_of touchAt_old noRace_append getElem?_append_old getElem?_append_cases lt_size_of_getElem? touch_of hb_po mem_of_getElem? hb_app ofEvents_eq)
def In(l:Loc)(b:Nat):Prop:=
 match l with
 | .cell a=>a.block=b
 | .obj r=>r=b
 | _=>False

def Own(t:Trace)(g b:Nat):Prop:=∀i a,touchAt t i=some a->In a.loc b->Knows t g i
def Rd(t:Trace)(g b:Nat):Prop:=∀i a,touchAt t i=some a->In a.loc b->a.write=true->Knows t g i
theorem Own.rd(h:Own t g b):Rd t g b:=fun i a h1 h2 _=>h i a h1 h2

theorem jM{a:Touch}(h:touchAt (t++u) i=some a):(i<t.size/\touchAt t i=some a)\/(∃op,(t++u)[i]? =some op/\op∈u/\op.act.touch? =some a):=by
 obtain⟨x,hx,hxa⟩:=touch_of h;rcases getElem?_append_cases hx with⟨hi,Aq⟩ | ⟨_,hxu⟩
 ·exact .inl ⟨hi,by rw[touchAt_of Aq];exact hxa⟩
 exact .inr ⟨x,hx,hxu,hxa⟩

theorem Own.app(h:Own t g b)(hu:∀op∈u,∀a,op.act.touch? =some a->In a.loc b->op.g=g):Own (t++u) g b:=by
 intro i a ha hl;rcases jM ha with⟨hi,h1⟩ | ⟨op,ho,hm,h1⟩
 ·exact(h i a h1 hl).app u
 have:=knows_own ho;rwa[hu op hm a h1 hl]at this
theorem Rd.app(h:Rd t g b)(hu:∀op∈u,∀a,op.act.touch? =some a->In a.loc b->a.write=true->op.g=g):Rd (t++u) g b:=by
 intro i a ha hl hw;rcases jM ha with⟨hi,h1⟩ | ⟨op,ho,hm,h1⟩
 ·exact(h i a h1 hl hw).app u
 have:=knows_own ho;rwa[hu op hm a h1 hl hw]at this

theorem wV(h:Jd k M lo hi e){a:Touch}(ht:(MemAct.ofEvent e).touch? =some a):
  ∃b,In a.loc b/\(∀b',In a.loc b'->b'=b)/\a.kind= .plain/\a.write=e.write/\(((k b).isSome=true/\lI (k b)=false/\(a.write=true->M b))\/(lo<=b/\b<hi)\/(a.write=false/\∃off c po,a.loc= .cell ⟨b,off,none⟩/\k b=some (bn c po)/\off<c.size/\off≠po)):=by
 obtain⟨loc,wr,sync⟩:=e;unfold Jd at h;simp only at h
 cases loc with
 | cell ad=>
  simp only at h;obtain⟨rfl,h⟩:=h;simp only[MemAct.ofEvent,MemAct.touch?,dY]at ht;subst ht;refine⟨ad.block,rfl,fun b' e=>e.symm,rfl,rfl,h.imp id fun h=>h.imp id fun⟨h1,h2,c,po,h3,h4⟩=>⟨h1,ad.off,c,po,?_,h3,h4⟩⟩;obtain⟨x,y,z⟩:=ad;simp only at h2;rw[h2]
 | obj r=>
  simp only at h;obtain⟨rfl,h⟩:=h;simp only[MemAct.ofEvent,MemAct.touch?,dY]at ht;subst ht;exact⟨r,O,fun b' e=>e.symm,O,O,h.imp id .inl⟩
 | mark m=>
  simp only at h
  cases m <;>simp only[Rz]at h <;>first | (cases h;done) | (simp only[MemAct.ofEvent,MemAct.touch?]at ht;cases ht;done) | (cases wr <;>cases sync <;>simp only[MemAct.ofEvent,MemAct.touch?]at ht <;>cases ht)
 | _=>exact h.elim

theorem Z4(h:Jd k M lo hi e){m:Mark}(hm:MemAct.ofEvent e= .mark m):Rz m=true:=by
 obtain⟨loc,wr,sync⟩:=e;unfold Jd at h;simp only at h
 cases loc with
 | mark m'=>
  have e1:(MemAct.ofEvent ⟨.mark m',wr,sync⟩)= .mark m':=by cases wr <;>cases sync <;>rfl
  rw[e1]at hm
  cases hm
  exact h
 | cell ad=>cases wr <;>cases sync <;>cases hm
 | obj r=>cases wr <;>cases sync <;>first | (cases hm;done) | exact absurd h.1 (by simp)
 | _=>exact h.elim

section step
variable{t:Trace}{n j:Nat}{k:Hp}{M:Nat->Prop}{w w':World}{es:Array Event}{fn:FuncId}{pos:String}
theorem mem_ofEvents{op:MemOp}(h:op∈MemOp.ofEvents j fn pos es):∃e∈es,op={g:=j,fn,pos,act:=.ofEvent e}:=by
 rw[ofEvents_eq]at h;obtain⟨e,he,rfl⟩:=Array.mem_map.1 h;exact⟨e,he,O⟩

theorem Z5(b:Nat)(h:lI (snap k w w' b)=false):lI (k b)=false:=by
 cases hc:lI (k b)with
 | false=>rfl
 | true=>simp[snap,hc]at h

theorem afR(g:iR k M w w' es)(h:Own t i b)(hb:b<w.heap.size)(hn:(k b).isSome=true->lI (k b)=true)(hv:∀c po,k b≠some (bn c po)):Own (t++MemOp.ofEvents j fn pos es) i b:=by
 refine h.app fun op aY a ha hl=>?_;obtain⟨e,he,rfl⟩:=mem_ofEvents aY;obtain⟨bl,_,h2,_,_,h5⟩:=wV (g.jv e he) ha;obtain rfl:=h2 b hl;rcases h5 with⟨h5,h6,_⟩ | h5 | ⟨_,_,c,po,_,h5,_⟩
 ·rw[hn h5]at h6;cases h6
 ·omega
 exact absurd h5 (hv c po)
theorem ah7(g:iR k M w w' es)(h:Rd t i b)(hb:b<w.heap.size)(hn:M b->lI (k b)=true):Rd (t++MemOp.ofEvents j fn pos es) i b:=by
 refine h.app fun op aY a ha hl hw=>?_;obtain⟨e,he,rfl⟩:=mem_ofEvents aY;obtain⟨bl,_,h2,_,_,h5⟩:=wV (g.jv e he) ha;obtain rfl:=h2 b hl;rcases h5 with⟨h5,h6,h7⟩ | h5 | ⟨h5,_⟩
 ·rw[hn (h7 hw)]at h6;cases h6
 ·omega
 rw[hw]at h5;cases h5
end step
end Go.jc

namespace Go.jc
set_option linter.unusedVariables false
inductive WR where
 | live | s1 | s2 | s3 | s4 | gone
 deriving DecidableEq,Repr
inductive MP where
 | add (t:Nat)
 | wt (old:Option Nat) (B:Nat)
 | reg
 | seen
 | out
 deriving DecidableEq,Repr

abbrev Wn:=WR->Nat
def Wv(c:Wn)(r r':WR)(c':Wn):Prop:=∀q,c' q+(if r=q then 1 else 0)=c q+(if r'=q then 1 else 0)

structure xP where
 v:Nat
 w:Nat
 ws:Nat

def jK(x:xP)(p:MP)(c:Wn):Prop:=
 match p with
 | .add t=>x.v=c .live+c .s1+t/\x.w=0/\x.ws=0/\c .s2+c .s3+c .s4=0
 | .wt old B=>x.v=c .live+c .s1/\x.w=0/\x.ws=0/\c .s2+c .s3+c .s4=0/\(match old with | none=>x.v<B | some o=>o=B/\x.v<=B)
 | .reg=>(0<x.v/\x.v=c .live+c .s1/\x.w=1/\x.ws=0/\c .s2+c .s3+c .s4=0)\/(c .live+c .s1=0/\x.v=0/\x.w=1/\x.ws=0/\c .s2+c .s3=1/\c .s4=0)\/
   (c .live+c .s1=0/\x.v=0/\x.w=0/\x.ws=0/\c .s2+c .s3=0/\c .s4=1)\/(c .live+c .s1=0/\x.v=0/\x.w=0/\x.ws=1/\c .s2+c .s3+c .s4=0)
 | .seen=>c .live+c .s1=0/\x.v=0/\x.w=0/\x.ws=0/\c .s2+c .s3+c .s4=0
 | .out=>c .live+c .s1=0/\x.v=0/\x.w=0/\x.ws=0/\c .s2+c .s3+c .s4=0

theorem Wv.all{c c':Wn}{r r':WR}(h:Wv c r r' c'):
  (c' .live+(if r= .live then 1 else 0)=c .live+(if r'= .live then 1 else 0))/\(c' .s1+(if r= .s1 then 1 else 0)=c .s1+(if r'= .s1 then 1 else 0))/\
  (c' .s2+(if r= .s2 then 1 else 0)=c .s2+(if r'= .s2 then 1 else 0))/\(c' .s3+(if r= .s3 then 1 else 0)=c .s3+(if r'= .s3 then 1 else 0))/\
  (c' .s4+(if r= .s4 then 1 else 0)=c .s4+(if r'= .s4 then 1 else 0))/\(c' .gone+(if r= .gone then 1 else 0)=c .gone+(if r'= .gone then 1 else 0)):=
 ⟨h _,h _,h _,h _,h _,h _⟩

section
variable{x:xP}{c c':Wn}{p:MP}{t B o:Nat}{old:Option Nat}
theorem jK.told(H:jK x p c)(hm:Wv c .live .s1 c'):jK x p c':=by
 have hm:=hm.all;simp only[reduceCtorEq,if_true,if_false]at hm
 cases p with
 | wt old B=>cases old <;>simp only[jK]at H⊢<;>omega
 | reg=>simp only[jK]at H⊢;rcases H with H | H | H | H <;>omega
 | _=>simp only[jK]at H⊢<;>omega
theorem jK.sub(H:jK x p c)(hm:Wv c .s1 .gone c')(hx:¬(x.v=1/\x.w=1)):jK {x with v:=x.v-1} p c'/\0<x.v/\x.w<=1:=by
 have hm:=hm.all;simp only[reduceCtorEq,if_true,if_false]at hm
 cases p with
 | wt old B=>cases old <;>simp only[jK]at H⊢<;>omega
 | reg=>simp only[jK]at H⊢;rcases H with H | H | H | H <;>omega
 | _=>simp only[jK]at H⊢<;>omega
theorem jK.av7(H:jK x p c)(hm:Wv c .s1 .s2 c')(hx:x.v=1/\x.w=1):jK {x with v:=x.v-1} p c':=by
 have hm:=hm.all;simp only[reduceCtorEq,if_true,if_false]at hm
 cases p with
 | wt old B=>cases old <;>simp only[jK]at H⊢<;>omega
 | reg=>simp only[jK]at H⊢;rcases H with H | H | H | H <;>omega
 | _=>simp only[jK]at H⊢<;>omega
theorem jK.ah8(H:jK x p c)(h:0<c .s1):0<x.v/\x.w<=1:=by
 cases p with
 | wt old B=>cases old <;>simp only[jK]at H⊢<;>omega
 | reg=>simp only[jK]at H⊢;rcases H with H | H | H | H <;>omega
 | _=>simp only[jK]at H⊢<;>omega
theorem jK.look(H:jK x p c)(h:0<c .s2):x.v=0/\x.w=1:=by
 cases p with
 | wt old B=>cases old <;>simp only[jK]at H⊢<;>omega
 | reg=>simp only[jK]at H⊢;rcases H with H | H | H | H <;>omega
 | _=>simp only[jK]at H⊢<;>omega
theorem jK.looked(H:jK x p c)(hm:Wv c .s2 .s3 c'):jK x p c':=by
 have hm:=hm.all;simp only[reduceCtorEq,if_true,if_false]at hm
 cases p with
 | wt old B=>cases old <;>simp only[jK]at H⊢<;>omega
 | reg=>simp only[jK]at H⊢;rcases H with H | H | H | H <;>omega
 | _=>simp only[jK]at H⊢<;>omega
theorem jK.store(H:jK x p c)(hm:Wv c .s3 .s4 c'):jK {x with v:=0,w:=0} p c':=by
 have hm:=hm.all;simp only[reduceCtorEq,if_true,if_false]at hm
 cases p with
 | wt old B=>cases old <;>simp only[jK]at H⊢<;>omega
 | reg=>simp only[jK]at H⊢;rcases H with H | H | H | H <;>first | (exfalso;omega) | (refine .inr (.inr (.inl ⟨?_,?_,?_,?_,?_,?_⟩)) <;>first | trivial | omega)
 | _=>simp only[jK]at H⊢<;>omega
theorem jK.post(H:jK x p c)(hm:Wv c .s4 .gone c'):jK {x with ws:=x.ws+1} p c'/\x.ws=0:=by
 have hm:=hm.all;simp only[reduceCtorEq,if_true,if_false]at hm
 cases p with
 | wt old B=>cases old <;>simp only[jK]at H⊢<;>omega
 | reg=>simp only[jK]at H⊢;rcases H with H | H | H | H <;>refine⟨?_,?_⟩ <;>omega
 | _=>simp only[jK]at H⊢<;>omega
theorem jK.inc(H:jK x (.add t) c):jK {x with v:=x.v+1} (.add (t+1)) c/\x.w=0:=by simp only[jK]at H⊢;refine⟨?_,?_⟩ <;>omega
theorem jK.spawn(H:jK x (.add (t+1)) c)(h:∀q,c' q=c q+(if q= .live then 1 else 0)):jK x (.add t) c':=by
 have h1:=h .live;have h2:=h .s1;have h3:=h .s2;have h4:=h .s3;have h5:=h .s4;simp only[reduceCtorEq,if_true,if_false]at h1 h2 h3 h4 h5;simp only[jK]at*;omega
theorem jK.begin(H:jK x (.add 0) c):jK x (.wt none (x.v+1)) c:=by simp only[jK]at*;omega
theorem jK.asg(H:jK x (.wt old B) c)(h:x.v=0):jK x .seen c/\x.w=0:=by cases old <;>simp only[jK]at* <;>omega
theorem jK.ash(H:jK x (.wt none B) c):jK x (.wt (some x.v) x.v) c/\x.v<B/\x.w=0:=by simp only[jK]at H⊢;refine⟨⟨?_,?_,?_,?_,trivial,Nat.le_refl _⟩,?_,?_⟩ <;>omega
theorem jK.reg(H:jK x (.wt (some o) B) c)(h:x.v=o)(h0:0<o):jK {x with w:=1} .reg c/\x.w=0:=by simp only[jK]at H⊢;exact⟨.inl ⟨aj,aj,trivial,aj,aj⟩,aj⟩
theorem jK.av8(H:jK x (.wt (some o) B) c)(h:x.v≠o):jK x (.wt none o) c/\x.w=0:=by simp only[jK]at H⊢;refine⟨?_,?_⟩ <;>omega
theorem jK.take(H:jK x .reg c)(h:0<x.ws):jK {x with ws:=x.ws-1} .seen c:=by simp only[jK]at*;omega
theorem jK.av9(H:jK x .out c):x.v=0/\x.w=0/\x.ws=0/\c .live=0/\c .s1=0/\c .s2=0/\c .s3=0/\c .s4=0:=by simp only[jK]at*;omega
theorem jK.asi(H:jK x .seen c):x.v=0/\x.w=0/\x.ws=0/\c .live=0/\c .s1=0/\c .s2=0/\c .s3=0/\c .s4=0:=by simp only[jK]at*;omega
theorem jK.goes(H:jK x .reg c)(h:x.ws=0):0<c .live+c .s1+c .s2+c .s3+c .s4:=by simp only[jK]at*;omega
theorem jK.small(H:jK x p c)(ht:∀t,p= .add t->t<=1):x.v<=c .live+c .s1+1/\x.w<=1/\x.ws<=1:=by
 cases p with
 | add t=>have:=ht t rfl;simp only[jK]at*;omega
 | wt old B=>cases old <;>simp only[jK]at* <;>omega
 | _=>simp only[jK]at* <;>omega
end
structure qL where
 S:Type
 A:Type
 X:Type
 at_:World->X->Prop
 can:A->S->Prop
 rel:A->S->X->Prop
 blk:A->X->Prop
 nxt:A->S->X->S->Prop
 LG:A->X->World->World
 jv:A->X->Array Event
 wak:A->Prop
 free:A->Prop

inductive lD(P:Program)(m:Bool)(π:qL)(E:π.S->Goroutine->Prop):π.S->Goroutine->Prop
 | exit {s:π.S} {g:Goroutine} (hs:g.status= .running) (h:E s g):lD P m π E s g
 | idle {s:π.S} {g g':Goroutine} (hs:g.status= .running) (e:∀w,stepG P m g w= .go g' w #[]) (h:lD P m π E s g'):lD P m π E s g
 | act {s:π.S} {g:Goroutine} (a:π.A) (hs:g.status= .running) (hc:π.can a s) (ho:g.offers=none)
   (wait:∀w x,π.at_ w x->π.rel a s x->π.blk a x->stepG P m g w= .go {g with status:=.blocked} w #[])
   (ok:∀w x,π.at_ w x->π.rel a s x->¬π.blk a x->∃g',stepG P m g w= .go g' (π.LG a x w) (π.jv a x)/\g'.status= .running)
   (wk:π.wak a->mayWake P g=true) (fr:π.free a->∃g' es,(∀e∈es,Event.mute e=true)/\∀w,stepG P m g w= .go g' w es)
   (h:∀w x g' w' es s',π.at_ w x->π.rel a s x->¬π.blk a x->stepG P m g w= .go g' w' es->π.nxt a s x s'->lD P m π E s' g'):lD P m π E s g

variable{P:Program}{a:Addr}{args:Array Value}{b g i id p size:Nat}{c y:Code}{e:Exit}{f:FuncId}{m:Bool}{o:Oper}{t u:Trace}{todo:List Item}{v:Value}{z:MemOp}{π:qL}{E:π.S->Goroutine->Prop}{R:Value->π.S->Prop}{s:π.S}{ρ:Env}
theorem lD.bind{E':π.S->Goroutine->Prop}{g:Goroutine}(T:lD P m π E s g)(h:∀s g,g.status= .running->E s g->lD P m π E' s g):lD P m π E' s g:=by
 induction T with
 | exit hs he=>exact h _ _ hs he
 | idle hs e _ ih=>exact .idle hs e ih
 | act a hs hc ho wait ok wk fr _ ih=>exact .act a hs hc ho wait ok wk fr ih

structure Lx where
 P:Program
 m:Bool
 π:qL
 fn:FuncId
 n:Nat

abbrev qM(π:qL):=Exit->Env->List Deferred->π.S->Prop

def Ec(P:Program)(m:Bool)(π:qL)(E:π.S->Goroutine->Prop)(b:Frame)(k:List Item)(cs:List Frame)(e:Exit)(tmps:Array Value)(ds:List Deferred)(s:π.S):Prop:=
 match e with
 | .normal=>lD P m π E s (G (dR b tmps ds k) cs)
 | .exit id=>∃k',exitTo id k=some k'/\lD P m π E s (G (dR b tmps ds k') cs)
 | .goto l=>∃k',gotoIn l k=some k'/\lD P m π E s (G (dR b tmps ds k') cs)
 | .ret=>∀k',lD P m π E s (G (dR b tmps ds (.code .ret::k')) cs)
 | _=>False

def L(x:Lx)(c:Code)(Q:qM x.π)(ρ:Env)(ds:List Deferred)(s:x.π.S):Prop:=
 ∀(b:Frame) (k:List Item) (cs:List Frame) (E:x.π.S->Goroutine->Prop) (tmps:Array Value),b.fn=x.fn->b.roundOf=none->b.kind≠ .early->jf ρ tmps->tmps.size=x.n->
  (∀e gW iT s' bC,Q e gW iT s'->jf gW bC->bC.size=x.n->Ec x.P x.m x.π E b k cs e bC iT s')->
  lD x.P x.m x.π E s (G (dR b tmps ds (.code c::k)) cs)
def LO(x:Lx)(ops:Array Oper)(todo:List Nat)(Q:qM x.π)(ρ:Env)(ds:List Deferred)(s:x.π.S):Prop:=
 ∀(b:Frame) (k:List Item) (cs:List Frame) (E:x.π.S->Goroutine->Prop) (tmps:Array Value),b.fn=x.fn->b.roundOf=none->b.kind≠ .early->jf ρ tmps->tmps.size=x.n->
  (∀e gW iT s' bC,Q e gW iT s'->jf gW bC->bC.size=x.n->Ec x.P x.m x.π E b k cs e bC iT s')->
  lD x.P x.m x.π E s (G (dR b tmps ds (.inRegion ops todo::k)) cs)

section rules
variable{x:Lx}{Q Q':qM x.π}{ρ gW:Env}{ds:List Deferred}{s:x.π.S}
theorem L.mono(H:L x c Q ρ ds s)(hq:∀e ρ ds s,Q e ρ ds s->Q' e ρ ds s):L x c Q' ρ ds s:=
 fun b k cs E tmps h1 h2 h3 h4 h5 hc=>H b k cs E tmps h1 h2 h3 h4 h5 fun e gW iT s' bC q=>hc e gW iT s' bC (hq _ _ _ _ q)
theorem L.env(se:Sub gW ρ)(H:L x c Q gW ds s):L x c Q ρ ds s:=
 fun b k cs E tmps h1 h2 h3 h4 h5 hc=>H b k cs E tmps h1 h2 h3 (h4.sub se) h5 hc
theorem L.skip(H:Q .normal ρ ds s):L x .skip Q ρ ds s:=
 fun b k cs E tmps h1 h2 h3 h4 h5 hc=>.idle O (fun _=>aef) (hc .normal ρ ds s tmps H h4 h5)
theorem L.label{l:Nat}(H:Q .normal ρ ds s):L x (.label l) Q ρ ds s:=
 fun b k cs E tmps h1 h2 h3 h4 h5 hc=>.idle O (fun _=>ZL) (hc .normal ρ ds s tmps H h4 h5)
theorem L.ret(H:Q .ret ρ ds s):L x .ret Q ρ ds s:=
 fun b k cs E tmps h1 h2 h3 h4 h5 hc=>hc .ret ρ ds s tmps H h4 h5 k
theorem L.exit(H:Q (.exit id) ρ ds s):L x (.exit id) Q ρ ds s:=
 fun b k cs E tmps h1 h2 h3 h4 h5 hc=>by
  obtain⟨k',e,g⟩:=hc (.exit id) ρ ds s tmps H h4 h5;exact .idle O (fun _=>aeh e) g
theorem L.goto{l:Nat}(H:Q (.goto l) ρ ds s):L x (.goto l) Q ρ ds s:=
 fun b k cs E tmps h1 h2 h3 h4 h5 hc=>by
  obtain⟨k',e,g⟩:=hc (.goto l) ρ ds s tmps H h4 h5;exact .idle O (fun _=>aei e) g

def ah9{π:qL}(K:Env->List Deferred->π.S->Prop)(Q:qM π):qM π:=fun e ρ ds s=>match e with | .normal=>K ρ ds s | e=>Q e ρ ds s

theorem Ec.push{b:Frame}{it:Item}{k:List Item}{cs:List Frame}{tmps:Array Value}{ds:List Deferred}{s:π.S}(hx:it.plain=true)(he:e≠ .normal)
  (H:Ec P m π E b k cs e tmps ds s):Ec P m π E b (it::k) cs e tmps ds s:=by
 cases e with
 | normal=>exact absurd rfl he
 | exit id=>
  have e1:exitTo id (it::k)=exitTo id k:=by cases it <;>simp_all[exitTo,Item.plain]
  simp only[Ec,e1]at H⊢;exact H
 | goto l=>
  have e1:gotoIn l (it::k)=gotoIn l k:=by cases it <;>simp_all[gotoIn,Item.plain]
  simp only[Ec,e1]at H⊢;exact H
 | ret=>exact H
 | panic ch=>exact H
 | outgrown=>exact H

theorem L.seq{z:Code}(H:L x y (ah9 (fun gW iT s'=>L x z Q gW iT s') Q) ρ ds s):L x (.seq y z) Q ρ ds s:=by
 intro b k cs E tmps h1 h2 h3 h4 h5 hc;refine .idle O (fun _=>X0) (H b (.code z::k) cs E tmps h1 h2 h3 h4 h5 fun e gW iT s' bC q a1 a2=>?_)
 cases e with
 | normal=>exact q b k cs E bC h1 h2 h3 a1 a2 hc
 | exit id=>exact(hc _ _ _ _ _ q a1 a2).push rfl (by simp)
 | goto l=>exact(hc _ _ _ _ _ q a1 a2).push rfl (by simp)
 | ret=>exact(hc _ _ _ _ _ q a1 a2).push (it:=.code z) rfl (by simp)
 | panic ch=>exact hc _ _ _ _ _ q a1 a2
 | outgrown=>exact hc _ _ _ _ _ q a1 a2

theorem L.cond{c:Operand}{z:Code}{v:Bool}(hv:ev ρ c=some (.bool v))(ht:v=true->L x y Q ρ ds s)(hf:v=false->L x z Q ρ ds s):L x (.cond c y z) Q ρ ds s:=by
 intro b k cs E tmps h1 h2 h3 h4 h5 hc;refine .idle O (fun _=>aeg (h4.ev hv)) ?_
 cases v with
 | true=>exact ht rfl b k cs E tmps h1 h2 h3 h4 h5 hc
 | false=>exact hf rfl b k cs E tmps h1 h2 h3 h4 h5 hc
theorem L.aJ{c:Operand}{z:Code}{p:Prop}[Decidable p](hv:ev ρ c=some (.bool (decide p)))(ht:p->L x y Q ρ ds s)(hf:¬p->L x z Q ρ ds s):L x (.cond c y z) Q ρ ds s:=
 L.cond hv (fun e=>ht (of_decide_eq_true e)) (fun e=>hf (of_decide_eq_false e))

def acX{π:qL}(id:Nat)(Q:qM π):qM π:=fun e ρ ds s=>match e with | .exit Oe=>bif Nat.beq Oe id then Q .normal ρ ds s else Q (.exit Oe) ρ ds s | e=>Q e ρ ds s
theorem L.block(H:L x c (acX id Q) ρ ds s):L x (.block id c) Q ρ ds s:=by
 intro b k cs E tmps h1 h2 h3 h4 h5 hc;refine .idle O (fun _=>ZM) (H b (.inBlock id::k) cs E tmps h1 h2 h3 h4 h5 fun e gW iT s' bC q a1 a2=>?_)
 cases e with
 | normal=>exact .idle rfl (fun _=>RF) (hc .normal _ _ _ _ q a1 a2)
 | exit Oe=>
  cases nU:Nat.beq Oe id with
  | true=>
   have e:Oe=id:=Nat.eq_of_beq_eq_true nU;simp only[acX,nU,cond_true]at q;exact⟨k,by simp[exitTo,e],hc .normal _ _ _ _ q a1 a2⟩
  | false=>
   simp only[acX,nU,cond_false]at q
   have e1:exitTo Oe (.inBlock id::k)=exitTo Oe k:=by
    have:id≠Oe:=fun e=>by subst e;rw[Nat.beq_refl]at nU;cases nU
    simp[exitTo,this]
   have:=hc (.exit Oe) _ _ _ _ q a1 a2;simp only[Ec,e1]at this⊢;exact this
 | goto l=>
  have e1:gotoIn l (.inBlock id::k)=gotoIn l k:=by simp[gotoIn]
  have:=hc (.goto l) _ _ _ _ q a1 a2;simp only[Ec,e1]at this⊢;exact this
 | ret=>exact hc .ret _ _ _ _ q a1 a2
 | panic ch=>exact hc (.panic ch) _ _ _ _ q a1 a2
 | outgrown=>exact hc .outgrown _ _ _ _ q a1 a2

theorem L.loop{σ:Type}(C:σ->Prop)(Ev:σ->Env)(St:σ->x.π.S)(μ:σ->Nat)(l7:σ)(X8:C l7)(he:Sub (Ev l7) ρ)(fP:St l7=s)
  (round:∀s,C s->L x c (ah9 (fun gW iT wE=>iT=ds/\∃s',C s'/\μ s'<μ s/\Sub (Ev s') gW/\St s'=wE) Q) (Ev s) ds (St s)):L x (.loop c) Q ρ ds s:=by
 refine L.env he ?_;subst fP;intro b k cs E tmps h1 h2 h3 h4 h5 hc;refine .idle O (fun _=>X3) ?_
 have key:∀N s,μ s=N->C s->∀tmps,jf (Ev s) tmps->tmps.size=x.n->lD x.P x.m x.π E (St s) (G (dR b tmps ds (.code c:: .inLoop c::k)) cs):=by
  intro N
  induction N using Nat.strongRecOn with
  | _ N ih=>
   intro s hN hs tmps h4 h5;refine round s hs b (.inLoop c::k) cs E tmps h1 h2 h3 h4 h5 fun e gW iT wE bC q a1 a2=>?_
   cases e with
   | normal=>
    obtain⟨rfl,s',c1,c2,c3,rfl⟩:=q;exact .idle O (fun _=>Ol) (ih (μ s') (hN▸c2) s' rfl c1 bC (a1.sub c3) a2)
   | exit id=>exact(hc _ _ _ _ _ q a1 a2).push rfl (by simp)
   | goto l=>exact(hc _ _ _ _ _ q a1 a2).push rfl (by simp)
   | ret=>exact(hc _ _ _ _ _ q a1 a2).push (it:=.inLoop c) rfl (by simp)
   | panic ch=>exact hc _ _ _ _ _ q a1 a2
   | outgrown=>exact hc _ _ _ _ _ q a1 a2
 exact key _ l7 O X8 tmps h4 h5

theorem L.region{ops:Array Oper}{todo:List Nat}(ht:List.range ops.size=todo)(H:LO x ops todo Q ρ ds s):L x (.region id ops false) Q ρ ds s:=
 fun b k cs E tmps h1 h2 h3 h4 h5 hc=>.idle O (fun _=>WA) (by rw[ht];exact H b k cs E tmps h1 h2 h3 h4 h5 hc)
theorem LO.nil{ops:Array Oper}(H:Q .normal ρ ds s):LO x ops [] Q ρ ds s:=
 fun b k cs E tmps h1 h2 h3 h4 h5 hc=>.idle O (fun _=>Bl) (hc .normal ρ ds s tmps H h4 h5)
end rules
abbrev sd(m:Bool):aN:=⟨m,fun _=>True⟩

section ops
variable{x:Lx}{Q:qM x.π}{ρ:Env}{ds:List Deferred}{s:x.π.S}{ops:Array Oper}{i:Nat}{rest:List Nat}
theorem LO.unwanted{j d:Nat}{w v:Bool}(ho:ops[i]? =some o)(hg:o.guard=some (j,w))(hj:(ops[j]?).bind (·.dst)=some d)(hv:look ρ d=some (.bool v))(iK:(v==w)=false)(hd:iy o.dst x.n=true)
  (H:LO x ops rest Q (put ρ o.dst undef) ds s):LO x ops (i::rest) Q ρ ds s:=by
 intro b k cs E tmps h1 h2 h3 h4 h5 hc
 have hw:Region.wanted o (yielded ops tmps)=false:=by
  simp only[Region.wanted,hg,yielded,hj,Option.bind_some,h4 d _ hv]
  cases v <;>cases w <;>simp_all
 obtain⟨p1,p2⟩:=h4.Jg h5 hd undef;refine .idle O (fun w'=>Ar (main:=sd x.m) ho hw) ?_;rw[fQ (cs:=cs) ho undef];exact H b k cs E _ h1 h2 h3 p1 p2 hc
theorem LO.split{d:Nat}{v:Bool}(_hv:look ρ d=some (.bool v))(ht:v=true->LO x ops (i::rest) Q ρ ds s)(hf:v=false->LO x ops (i::rest) Q ρ ds s):LO x ops (i::rest) Q ρ ds s:=by
 cases v with
 | true=>exact ht rfl
 | false=>exact hf rfl

def Kn1(ρ:Env)(e:Operand->Value):Prop:=∀y v,ev ρ y=some v->e y=v

def Cv(x:Lx)(ρ:Env)(o:Oper)(v:Value):Prop:=∀e,Kn1 ρ e->∃es,seen x.P x.fn es= #[]/\∀w,(execOp e o).runT x.P w #[]=(.ok (.value v) w,es)

theorem LO.q(ho:ops[i]? =some o)(hw:gY ops ρ o)(hd:iy o.dst x.n=true)(DZ:∀c,o.op≠ .defer c)(hv:Cv x ρ o v)(H:LO x ops rest Q (put ρ o.dst v) ds s):LO x ops (i::rest) Q ρ ds s:=by
 intro b k cs E tmps h1 h2 h3 h4 h5 hc;obtain⟨es,hes,hr⟩:=hv (dR b tmps ds (.inRegion ops (i::rest)::k)).eval fun _ _ hx=>h4.ev hx;have fA:(b.kind==CallKind.early)=false:=by simpa using h3
 obtain⟨p1,p2⟩:=h4.Jg h5 hd v;have hfn:(dR b tmps ds (.inRegion ops (i::rest)::k)).fn=x.fn:=h1;refine .idle (g':=G ((dR b tmps ds (.inRegion ops (i::rest)::k)).finish v) cs) O (fun w=>?_) ?_
 ·have:=wC (P:=x.P) (main:=sd x.m) (ds:=ds) (rest:=rest) (b:=b) (k:=k) (cs:=cs) (w:=w) ho (hw.wanted h4) DZ;rw[show(sd x.m).b=x.m from rfl]at this;rw[this,oW (fr:=dR b tmps ds (.inRegion ops (i::rest)::k)) (cs:=cs) (hr w) fA,hfn,hes]
 rw[fQ (cs:=cs) ho v];exact H b k cs E _ h1 h2 h3 p1 p2 hc

theorem LO.act(a:x.π.A)(ho:ops[i]? =some o)(hw:gY ops ρ o)(hd:iy o.dst x.n=true)(DZ:∀c,o.op≠ .defer c)(iV:x.π.can a s)
  (hb:∀e,Kn1 ρ e->∀w y,x.π.at_ w y->x.π.rel a s y->x.π.blk a y->∃es w',(execOp e o).runT x.P w #[]=(.halt .blocked w',es)/\w'=w)
  (ok:∀e,Kn1 ρ e->∀w y,x.π.at_ w y->x.π.rel a s y->¬x.π.blk a y->∃v es,(execOp e o).runT x.P w #[]=(.ok (.value v) (x.π.LG a y w),es)/\seen x.P x.fn es=x.π.jv a y/\∀s',x.π.nxt a s y s'->LO x ops rest Q (put ρ o.dst v) ds s')
  (wk:x.π.wak a->∀e,Kn1 ρ e->∃f fn QV ts,o.op= .call ⟨.value f,QV,ts⟩/\e f= .func (.func fn) #[] #[]/\(x.P.funcs[fn]?).any (·.body.isSome)=false)
  (fr:x.π.free a->∀e,Kn1 ρ e->∃v es,(∀ev∈seen x.P x.fn es,Event.mute ev=true)/\∀w,(execOp e o).runT x.P w #[]=(.ok (.value v) w,es)):LO x ops (i::rest) Q ρ ds s:=by
 intro b k cs E tmps h1 h2 h3 h4 h5 hc;have fA:(b.kind==CallKind.early)=false:=by simpa using h3
 have hkn:Kn1 ρ (dR b tmps ds (.inRegion ops (i::rest)::k)).eval:=fun _ _ hx=>h4.ev hx;have hfn:(dR b tmps ds (.inRegion ops (i::rest)::k)).fn=x.fn:=h1
 have fP:∀w,stepG x.P x.m (G (dR b tmps ds (.inRegion ops (i::rest)::k)) cs) w=stepG.apply x.P true (dR b tmps ds (.inRegion ops (i::rest)::k)) cs none (execOp (dR b tmps ds (.inRegion ops (i::rest)::k)).eval o) w:=fun w=>by
  have:=wC (P:=x.P) (main:=sd x.m) (ds:=ds) (rest:=rest) (b:=b) (k:=k) (cs:=cs) (w:=w) ho (hw.wanted h4) DZ;exact this
 refine .act a O iV O (fun w y h6 h7 h8=>?_) (fun w y h6 h7 h8=>?_) (fun hwk=>?_) (fun hfr=>?_) (fun w y g' w' LM s' h6 h7 h8 e hn=>?_)
 ·obtain⟨es,w',hr,rfl⟩:=hb _ hkn w y h6 h7 h8;rw[fP];unfold stepG.apply;simp only[hr,fA,if_true];simp[Conc.seen_none,GStep.after,G,Conc.G]
 ·obtain⟨v,es,hr,hs,_⟩:=ok _ hkn w y h6 h7 h8;refine⟨G ((dR b tmps ds (.inRegion ops (i::rest)::k)).finish v) cs,?_,O⟩;rw[fP,oW (fr:=dR b tmps ds (.inRegion ops (i::rest)::k)) (cs:=cs) hr fA,hfn,hs]
 ·obtain⟨f,fn,QV,ts,e1,e2,e3⟩:=wk hwk _ hkn;have e4:(dR b tmps ds (.inRegion ops (i::rest)::k)).eval f= .func (.func fn) #[] #[]:=e2;simp only[mayWake,G,Conc.G,dR,ho,Option.map_some,e1];simp only[dR]at e4;rw[e4];simp[e3]
 ·obtain⟨v,es,hm,hr⟩:=fr hfr _ hkn;refine⟨G ((dR b tmps ds (.inRegion ops (i::rest)::k)).finish v) cs,seen x.P x.fn es,hm,fun w=>?_⟩;rw[fP,oW (fr:=dR b tmps ds (.inRegion ops (i::rest)::k)) (cs:=cs) (hr w) fA,hfn]
 obtain⟨v,es,hr,hs,Z7⟩:=ok _ hkn w y h6 h7 h8;rw[fP,oW (fr:=dR b tmps ds (.inRegion ops (i::rest)::k)) (cs:=cs) hr fA]at e
 cases e
 obtain⟨p1,p2⟩:=h4.Jg h5 hd v;rw[fQ (cs:=cs) ho v];exact Z7 s' hn b k cs E _ h1 h2 h3 p1 p2 hc

def nJ(P:Program)(m:Bool)(π:qL)(f:FuncId)(args:Array Value)(s:π.S)(R:Value->π.S->Prop):Prop:=
 ∀(c:Frame) (cs:List Frame) (E:π.S->Goroutine->Prop),(∀v s',R v s'->lD P m π E s' (G (c.finish v) cs))->lD P m π E s (G (Frame.enter P f args .normal) (c::cs))
theorem LO.call(ho:ops[i]? =some o)(hw:gY ops ρ o)(hd:iy o.dst x.n=true)(DZ:∀c,o.op≠ .defer c)
  (hv:∀e,Kn1 ρ e->∃es,seen x.P x.fn es= #[]/\∀w,(execOp e o).runT x.P w #[]=(.ok (.enter f args) w,es))
  (H:nJ x.P x.m x.π f args s fun v s'=>LO x ops rest Q (put ρ o.dst v) ds s'):LO x ops (i::rest) Q ρ ds s:=by
 intro b k cs E tmps h1 h2 h3 h4 h5 hc;obtain⟨es,hes,hr⟩:=hv (dR b tmps ds (.inRegion ops (i::rest)::k)).eval fun _ _ hx=>h4.ev hx;have fA:(b.kind==CallKind.early)=false:=by simpa using h3
 have hfn:(dR b tmps ds (.inRegion ops (i::rest)::k)).fn=x.fn:=h1;refine .idle (g':=G (Frame.enter x.P f args .normal) (dR b tmps ds (.inRegion ops (i::rest)::k)::cs)) O (fun w=>?_) ?_
 ·have:=wC (P:=x.P) (main:=sd x.m) (ds:=ds) (rest:=rest) (b:=b) (k:=k) (cs:=cs) (w:=w) ho (hw.wanted h4) DZ;rw[show(sd x.m).b=x.m from rfl]at this;rw[this,Gz (fr:=dR b tmps ds (.inRegion ops (i::rest)::k)) (cs:=cs) (hr w) fA ⟨_,_,_,O⟩,hfn,hes]
 refine H _ cs E fun v s' r=>?_;obtain⟨p1,p2⟩:=h4.Jg h5 hd v;rw[fQ (cs:=cs) ho v];exact r b k cs E _ h1 h2 h3 p1 p2 hc
end ops
def aeB(c:Frame):Prop:=∀r o,c.mode= .panicking (r::o)->r.recovered=false

def Z8(P:Program)(m:Bool)(π:qL)(fn:FuncId):List Deferred->π.S->(π.S->Prop)->Prop
 | [],s,K=>K s
 | d::ds,s,K=>(∀r,d.target≠ .collected r)/\
  (
   (∃a:π.A,π.can a s/\(∀y,¬π.blk a y)/\¬π.wak a/\(∀w y,π.at_ w y->π.rel a s y->∃v es,(invoke d.target d.args).runT P w #[]=(.ok (.value v) (π.LG a y w),es)/\seen P fn es=π.jv a y)/\(π.free a->∃v es,(∀ev∈seen P fn es,Event.mute ev=true)/\∀w,(invoke d.target d.args).runT P w #[]=(.ok (.value v) w,es))/\∀y s',π.rel a s y->π.nxt a s y s'->Z8 P m π fn ds s' K)\/
   (
    ∃g args es,(∀w,(invoke d.target d.args).runT P w #[]=(.ok (.enter g args) w,es))/\seen P fn es= #[]/\
    ∀(c:Frame) (cs:List Frame) (E:π.S->Goroutine->Prop),aeB c->(∀s',Z8 P m π fn ds s' K->lD P m π E s' (G c cs))->lD P m π E s (G (Frame.enter P g args .deferred) (c::cs))))

def LFD(P:Program)(m:Bool)(π:qL)(f:FuncId)(args:Array Value)(s:π.S)(R:π.S->Prop):Prop:=
 ∀(c:Frame) (cs:List Frame) (E:π.S->Goroutine->Prop),aeB c->(∀s',R s'->lD P m π E s' (G c cs))->lD P m π E s (G (Frame.enter P f args .deferred) (c::cs))

def Yl(P:Program)(m:Bool)(π:qL)(f:FuncId)(fn:Func)(R:Value->π.S->Prop):qM π:=fun e ρ ds s=>
 (e= .ret\/e= .normal)/\Z8 P m π f ds s fun s'=>∃v,(∀tmps,jf ρ tmps->results fn tmps= .pure v)/\R v s'

def acY(ρ:Env):List ResultVar->Option (List Value)
 | []=>some []
 | .tmp t::r=>match look ρ t,acY ρ r with
  | some v,some vs=>some (v::vs)
  | _,_=>none
 | .cell _ _::_=>none
theorem aeC{ρ:Env}{tmps:Array Value}(he:jf ρ tmps):∀{rs:List ResultVar} {vs:List Value},acY ρ rs=some vs->rs.mapM (m:=Sem) (rd tmps)= .pure vs
 | [],vs,e=>by simp only[acY,dY]at e;subst e;rfl
 | .tmp t::rs,vs,e=>by
  simp only[acY]at e;split at e
  ·rename_i v vs' h1 h2
   cases e
   have e1:tmps.getD t undef=v:=by simp[he t v h1]
   rw[List.mapM_cons,aeC he h2];simp only[rd,e1]
   rfl
  cases e
 | .cell a t::rs,vs,e=>by simp[acY]at e

theorem jX{fn:Func}{vs:List Value}(hR:R (pack vs) s)(he:e= .ret\/e= .normal:=by first | exact .inl rfl | exact .inr rfl)(hv:acY ρ fn.results.toList=some vs:=by rfl):Yl P m π f fn R e ρ [] s:=by
 refine⟨he,pack vs,fun tmps ht=>?_,hR⟩;rw[RZ]
 have e1:fn.results.mapM (m:=Sem) (rd tmps)= .pure vs.toArray:=by
  have h:fn.results=fn.results.toList.toArray:=by simp
  rw[h,List.mapM_toArray,aeC ht hv]
  rfl
 rw[e1];show Sem.pure (aew vs.toArray)=_;rw[ZU]

section
variable{P:Program}{m:Bool}{π:qL}{b:Frame}{t:Array Value}{cs:List Frame}{w:World}
theorem ah_{fn:Func}{c:Frame}{todo:List Item}(hf:P.funcs[b.fn]? =some fn)(r:results fn t= .pure v)(hk:b.kind= .deferred)(hm:aeB c):
  stepG P m (G (kP b t [] todo) (c::cs)) w= .go (G c cs) w #[]:=by
 have e:stepG P m (G (kP b t [] todo) (c::cs)) w=unwind P m (kP b t [] todo) (c::cs) none w:=rfl;rw[e];unfold unwind;have h1:(kP b t [] todo).defers=[]:=rfl;have h2:(kP b t [] todo).mode= .returning:=rfl;have h3:(kP b t [] todo).fn=b.fn:=rfl;have h4:(kP b t [] todo).tmps=t:=rfl;have h5:(kP b t [] todo).kind= .deferred:=hk;simp only[h1,h2,h3,h4,hf,r,doReturn,h5,Sem.runT];rw[Conc.seen_none];split
 ·rename_i hh;have:=hm _ _ hh
  cases this
 rfl
theorem aia{fn:Func}{c:Frame}(hf:P.funcs[b.fn]? =some fn)(r:results fn t= .pure v)(hk:b.kind= .normal):stepG P m (G (kP b t [] todo) (c::cs)) w= .go (G (c.finish v) cs) w #[]:=by
 have:=aej (P:=P) (main:=sd m) (w:=w) (w':=w) (es:= #[]) (c:=c) (cs:=cs) (todo:=todo) (v:=v) hf (by rw[r];rfl) hk;rw[Conc.seen_none]at this;exact this

theorem IQ{d:Deferred}{ds:List Deferred}(hd:∀r,d.target≠ .collected r):stepG P m (G (kP b t (d::ds) todo) cs) w=callDeferred P (kP b t ds todo) cs none d w:=by
 have e:stepG P m (G (kP b t (d::ds) todo) cs) w=unwind P m (kP b t (d::ds) todo) cs none w:=rfl;rw[e];unfold unwind;have h1:(kP b t (d::ds) todo).defers=d::ds:=rfl;rw[h1];split
 ·rename_i r iT heq
  cases heq
  exact absurd O (hd _)
 ·rename_i heq;cases heq;rfl
 rename_i heq;cases heq

theorem aeD{fn:Func}{R:Value->π.S->Prop}{E:π.S->Goroutine->Prop}(hf:P.funcs[b.fn]? =some fn):∀{ds:List Deferred} {s:π.S} (todo:List Item),jf ρ t->
  Z8 P m π b.fn ds s (fun s'=>∃v,(∀tmps,jf ρ tmps->results fn tmps= .pure v)/\R v s')->
  (∀v s',R v s'->∃c LU,cs=c::LU/\((b.kind= .normal/\lD P m π E s' (G (c.finish v) LU))\/(b.kind= .deferred/\aeB c/\lD P m π E s' (G c LU))))->
  lD P m π E s (G (kP b t ds todo) cs):=by
 intro ds
 induction ds with
 | nil=>
  intro s todo he hu hc;obtain⟨v,h1,h2⟩:=hu;obtain⟨c,LU,rfl,⟨hk,g⟩ | ⟨hk,hm,g⟩⟩:=hc v s h2
  ·exact .idle O (fun w=>aia hf (h1 t he) hk) g
  exact .idle O (fun w=>ah_ hf (h1 t he) hk hm) g
 | cons d ds ih=>
  intro s todo he hu hc;obtain⟨hd,⟨a,h1,h2,h3,h4,hfr,h5⟩ | ⟨g,args,es,h1,h2,h3⟩⟩:=hu
  ·have go:∀w y,π.at_ w y->π.rel a s y->stepG P m (G (kP b t (d::ds) todo) cs) w= .go (G (kP b t ds todo) cs) (π.LG a y w) (π.jv a y):=by
    intro w y h6 h7;obtain⟨v,es,hr,hs⟩:=h4 w y h6 h7;rw[IQ hd];unfold callDeferred;have e2:(kP b t ds todo).mode= .returning:=rfl;have e3:(kP b t ds todo).fn=b.fn:=rfl;simp only[hr,e2,e3,hs,Bool.and_false,if_false,eU]
    rfl
   refine .act a O h1 O (fun w y _ _ h=>absurd h (h2 y)) (fun w y h6 h7 _=>⟨_,go w y h6 h7,O⟩) (fun h=>absurd h h3) (fun h=>?_) (fun w y g' w' LM s' h6 h7 _ e hn=>?_)
   ·obtain⟨v,es,hm,hr⟩:=hfr h;refine⟨G (kP b t ds todo) cs,seen P b.fn es,hm,fun w=>?_⟩;rw[IQ hd];unfold callDeferred;have e2:(kP b t ds todo).mode= .returning:=rfl;have e3:(kP b t ds todo).fn=b.fn:=rfl;simp only[hr,e2,e3,Bool.and_false,if_false,eU]
    rfl
   rw[go w y h6 h7]at e
   cases e
   exact ih todo he (h5 y s' h7 hn) hc
  refine .idle (g':=G (Frame.enter P g args .deferred) (kP b t ds todo::cs)) O (fun w=>?_) ?_
  ·rw[IQ hd];unfold callDeferred;have e2:(kP b t ds todo).mode= .returning:=rfl;have e3:(kP b t ds todo).fn=b.fn:=rfl;simp only[h1 w,e2,e3,h2,Bool.and_false,if_false,eU]
   rfl
  exact h3 (kP b t ds todo) cs E (fun r o h=>by cases h) fun s' q=>ih todo he q hc
end
theorem nJ.gX{fn:Func}(hf:P.funcs[f]? =some fn)(hb:fn.body=some c)(ha:args.size<=fn.ntmps)(ρ:Env)(LD:LV ρ args)
  (H:L ⟨P,m,π,f,fn.ntmps⟩ c (Yl P m π f fn R) ρ [] s):nJ P m π f args s R:=by
 intro c' cs E hc
 have e:Frame.enter P f args .normal=dR {(default:Frame)with fn:=f,kind:=.normal} (args++Array.replicate (fn.ntmps-args.size) undef) [] [.code c]:=by
  simp[Frame.enter,dR,hf,hb];rfl
 rw[e];refine H _ [] (c'::cs) E _ O O (by simp) LD.ok (by simp;omega) fun ex gW iT s' bC q a1 a2=>?_;obtain⟨hex,hu⟩:=q
 have go:∀todo,lD P m π E s' (G (kP {(default:Frame)with fn:=f,kind:=.normal} bC iT todo) (c'::cs)):=fun todo=>
  aeD (ρ:=gW) (fn:=fn) hf todo a1 hu (fun v wE r=>⟨c',cs,O,.inl ⟨O,hc v wE r⟩⟩)
 rcases hex with rfl | rfl
 ·exact fun k'=>.idle O (fun _=>J5 (main:=sd m) O) (go _)
 exact .idle O (fun _=>J6 (main:=sd m) O) (go _)
theorem LFD.gX{fn:Func}{R:π.S->Prop}(hf:P.funcs[f]? =some fn)(hb:fn.body=some c)(ha:args.size<=fn.ntmps)(ρ:Env)(LD:LV ρ args)
  (H:L ⟨P,m,π,f,fn.ntmps⟩ c (Yl P m π f fn fun _ s=>R s) ρ [] s):LFD P m π f args s R:=by
 intro c' cs E hm hc
 have e:Frame.enter P f args .deferred=dR {(default:Frame)with fn:=f,kind:=.deferred} (args++Array.replicate (fn.ntmps-args.size) undef) [] [.code c]:=by
  simp[Frame.enter,dR,hf,hb];rfl
 rw[e];refine H _ [] (c'::cs) E _ O O (by simp) LD.ok (by simp;omega) fun ex gW iT s' bC q a1 a2=>?_;obtain⟨hex,hu⟩:=q
 have go:∀todo,lD P m π E s' (G (kP {(default:Frame)with fn:=f,kind:=.deferred} bC iT todo) (c'::cs)):=fun todo=>
  aeD (ρ:=gW) (fn:=fn) hf todo a1 hu (fun v wE r=>⟨c',cs,O,.inr ⟨O,hm,hc wE r⟩⟩)
 rcases hex with rfl | rfl
 ·exact fun k'=>.idle O (fun _=>J5 (main:=sd m) O) (go _)
 exact .idle O (fun _=>J6 (main:=sd m) O) (go _)
structure Grp where
 Wg:Nat
 tW:TypeId
def jY(b:Nat):Addr:=⟨b,0,none⟩
def yY(b:Nat):Addr:=⟨b,1,none⟩
def xP.st(x:xP):Nat:=x.v*4294967296+x.w
def SG(t:TypeId)(x:xP):Obj:=.cells #[.int .u64 (x.st:Int),.int .u32 (x.ws:Int)] t (0,0)

inductive LS where
 | wg (p:MP) (d:Nat)
 | dn (r:WR) (d:Nat)
inductive LA where
 | Kr | en | Ym | acZ | Z9 | WM | SH | Z_ (o:Nat) | Ov | L_ | WO | Qo
 | wrm | aac | PN | Ed | G5

def yw(m:Mark):Event:=⟨.mark m,false,true⟩
def FM(a:Addr):Event:=⟨.cell a,false,true⟩
def Kt(a:Addr):Event:=⟨.cell a,true,true⟩
def FN(a:Addr):Array Event:= #[yw .disable,FM a,Kt a,yw .enable]

def oP(a:LA)(s:LS):Prop:=
 match a,s with
 | .Kr,.wg p _=>(∀o B,p≠ .wt o B)/\p≠ .out
 | .Kr,.dn _ _=>True
 | .en,.wg _ d=>0<d
 | .en,.dn _ d=>0<d
 | .Ym,.wg p _=>p≠ .out
 | .Ym,.dn r _=>r= .live
 | .acZ,.wg p _=>p= .add 0
 | .Z9,.wg p d=>0<d/\p= .add 0
 | .WM,.wg p _=>∃t,p= .add t
 | .SH,.wg p d=>0<d/\∃B,p= .wt none B
 | .Z_ o,.wg p d=>0<d/\0<o/\∃B,p= .wt (some o) B
 | .Ov,.wg p _=>p= .reg
 | .L_,.wg p d=>0<d/\p= .reg
 | .WO,.wg p d=>0<d/\p= .seen
 | .Qo,.wg p d=>d=0/\p= .seen
 | .wrm,.dn r d=>r= .live/\d=0
 | .aac,.dn r d=>0<d/\r= .s1
 | .PN,.dn r d=>0<d/\r= .s2
 | .Ed,.dn r d=>0<d/\r= .s3
 | .G5,.dn r d=>0<d/\r= .s4
 | _,_=>False

def WF(p:MP)(x:xP):Prop:=
 x.v<=64/\x.w<=1/\x.ws<=1/\
 match p with
 | .add t=>x.w=0/\x.ws=0/\t<=x.v
 | .wt old B=>x.w=0/\x.ws=0/\(old=none->x.v<B)/\(∀o,old=some o->o=B/\x.v<=B)
 | .reg=>0<x.ws->x.v=0/\x.w=0/\x.ws=1
 | .seen=>x.v=0/\x.w=0/\x.ws=0
 | .out=>True
def DF(r:WR)(x:xP):Prop:=
 x.v<=64/\x.w<=1/\x.ws<=1/\
 match r with
 | .s1=>0<x.v
 | .s2=>x.v=0/\x.w=1
 | .s3=>True
 | .s4=>x.ws=0
 | _=>True
def SI(_:LA)(s:LS)(x:xP):Prop:=
 match s with
 | .wg p _=>WF p x
 | .dn r _=>DF r x
def yZ(a:LA)(x:xP):Prop:=
 match a with
 | .L_=>x.ws=0
 | _=>False
def Jh(a:LA)(s:LS)(x:xP)(s':LS):Prop:=
 match a,s with
 | .Kr,.wg p d=>s'= .wg p (d+1)
 | .Kr,.dn r d=>s'= .dn r (d+1)
 | .en,.wg p d=>s'= .wg p (d-1)
 | .en,.dn r d=>s'= .dn r (d-1)
 | .acZ,.wg _ d=>s'= .wg (.wt none (x.v+1)) (d+1)
 | .Z9,.wg _ d=>s'= .wg (.add 1) d
 | .SH,.wg _ d=>s'=if x.v=0 then .wg .seen d else .wg (.wt (some x.v) x.v) d
 | .Z_ o,.wg _ d=>s'=if x.v=o then .wg .reg d else .wg (.wt none o) d
 | .L_,.wg _ d=>s'= .wg .seen d
 | .Qo,.wg _ d=>s'= .wg .out d
 | .wrm,.dn _ d=>s'= .dn .s1 d
 | .aac,.dn _ d=>s'=if x.v=1/\x.w=1 then .dn .s2 d else .dn .gone d
 | .PN,.dn _ d=>s'= .dn .s3 d
 | .Ed,.dn _ d=>s'= .dn .s4 d
 | .G5,.dn _ d=>s'= .dn .gone d
 | _,s=>s'=s
def tq(G:Grp)(a:LA)(x:xP)(w:World):World:=
 match a with
 | .Z9=>w.setCell (jY G.Wg) (.int .u64 ((x.st+4294967296:Nat):Int))
 | .Z_ o=>if x.v=o then w.setCell (jY G.Wg) (.int .u64 ((x.st+1:Nat):Int))else w
 | .L_=>w.setCell (yY G.Wg) (.int .u32 ((x.ws-1:Nat):Int))
 | .aac=>w.setCell (jY G.Wg) (.int .u64 ((x.st-4294967296:Nat):Int))
 | .Ed=>w.setCell (jY G.Wg) (.int .u64 0)
 | .G5=>w.setCell (yY G.Wg) (.int .u32 ((x.ws+1:Nat):Int))
 | _=>w
def jH(G:Grp)(a:LA)(x:xP):Array Event:=
 match a with
 | .Kr=> #[yw .disable]
 | .acZ=> #[yw .disable]
 | .en=> #[yw .enable]
 | .Ym=> #[]
 | .Z9=> #[FM (jY G.Wg),Kt (jY G.Wg)]
 | .WM=> #[yw (.read (yY G.Wg))]
 | .SH=> #[FM (jY G.Wg)]
 | .Z_ o=>if x.v=o then #[FM (jY G.Wg),Kt (jY G.Wg)]else #[FM (jY G.Wg)]
 | .Ov=> #[yw (.write (yY G.Wg))]
 | .L_=>FN (yY G.Wg)
 | .WO=> #[FM (jY G.Wg)]
 | .Qo=> #[yw (.acquire (jY G.Wg))]
 | .wrm=> #[yw (.releaseMerge (jY G.Wg))]
 | .aac=> #[FM (jY G.Wg),Kt (jY G.Wg)]
 | .PN=> #[FM (jY G.Wg)]
 | .Ed=> #[Kt (jY G.Wg)]
 | .G5=>FN (yY G.Wg)
def ac0(a:LA):Prop:=a= .G5
def Ku(G:Grp)(w:World)(x:xP):Prop:=w.heap[G.Wg]? =some (SG G.tW x)
def gJ(G:Grp):qL where
 S:=LS
 A:=LA
 X:=xP
 at_:=Ku G
 can:=oP
 rel:=SI
 blk:=yZ
 nxt:=Jh
 LG:=tq G
 jv:=jH G
 wak:=ac0
 free:=fun a=>a= .Kr\/a= .en
theorem Yn{a:LA}{s:LS}{x:xP}(h:oP a s):∃s',Jh a s x s':=by
 cases a <;>cases s <;>first | exact h.elim | exact⟨_,rfl⟩
open Go.Conc (Before Knows knows_own touchAt touchAt_of touchAt_old noRace_append getElem?_append_old getElem?_append_cases lt_size_of_getElem? touch_of hb_po mem_of_getElem? hb_app ofEvents_eq Deaf deaf_old g?_old act?_old heard_old lt_of_act? Deaf_own Deaf_other)
structure TK(t:Trace)(n size:Nat)(dv:Nat->Nat):Prop where
 norel:∀op∈t,∀a,op.act≠ .mark (.release a)
 clean:∀said,¬Race said t
 below:∀i a b,touchAt t i=some a->In a.loc b->b<size
 who:∀op∈t,op.g<n
 deaf:∀g,Deaf t g=dv g
 said:∀i a,touchAt t i=some a->a.kind= .said->t.g? i=some 0

def PlK(t:Trace)(g b:Nat):Prop:=∀i a,touchAt t i=some a->In a.loc b->a.kind= .plain->Knows t g i
theorem Own.plk(h:Own t g b):PlK t g b:=fun i a h1 h2 _=>h i a h1 h2
theorem PlK.app(h:PlK t g b)(hu:∀op∈u,∀a,op.act.touch? =some a->In a.loc b->a.kind= .plain->op.g=g):PlK (t++u) g b:=by
 intro i a ha hl hp;rcases jM ha with⟨hi,h1⟩ | ⟨op,ho,hm,h1⟩
 ·exact(h i a h1 hl hp).app u
 have:=knows_own ho;rwa[hu op hm a h1 hl hp]at this

theorem TK.empty{n:Nat}:TK #[] n size (fun _=>0):=
 ⟨fun op h=>by simp at h,fun said ⟨i,j,hij,⟨a,b,ha,_⟩,_⟩=>by simp[Trace.act?]at ha,fun i a b h=>by simp[touchAt,Trace.act?]at h,fun op h=>by simp at h,fun g=>rfl,fun i a h=>by simp[touchAt,Trace.act?]at h⟩

theorem TK.heard{n:Nat}{dv:Nat->Nat}(h:TK t n size dv){r:Nat}(hz:(t++u)[t.size]? =some z)(hd:dv z.g=0):(t++u).heard t.size:=
 ⟨z.g,by simp[Trace.g?,hz],by rw[deaf_old (Nat.le_refl _)];exact(h.deaf z.g).trans hd⟩

theorem SL(h:∀i a,touchAt t i=some a->a.kind= .said->t.g? i=some 0)(hu:∀op∈u,∀a,op.act.touch? =some a->a.kind= .said->op.g=0):∀i a,touchAt (t++u) i=some a->a.kind= .said->(t++u).g? i=some 0:=by
 intro i a ha hs;rcases jM ha with⟨hi,h1⟩ | ⟨op,ho,hm,h1⟩
 ·rw[g?_old hi];exact h i a h1 hs
 simp[Trace.g?,ho,hu op hm a h1 hs]

section step
variable{t u:Trace}{n n' j:Nat}{dv:Nat->Nat}{k:Hp}{M:Nat->Prop}{w w':World}{es:Array Event}{fn:FuncId}{pos:String}
theorem ac1(he:∀e∈es,∀m,MemAct.ofEvent e= .mark m->Rz m=true)(g:Nat):Deaf (t++MemOp.ofEvents j fn pos es) g=Deaf t g:=by
 refine Go.ConcN.Deaf_still t g _ fun op aY=>?_;obtain⟨e,h1,rfl⟩:=mem_ofEvents aY;exact⟨fun h=>(by have:=he e h1 _ h;cases this),fun h=>(by have:=he e h1 _ h;cases this)⟩

def RdC(t:Trace)(g b off:Nat):Prop:=∀i a,touchAt t i=some a->a.loc= .cell ⟨b,off,none⟩->a.write=true->Knows t g i
theorem RdC.app{t u:Trace}{off:Nat}(h:RdC t g b off)(hu:∀op∈u,∀a,op.act.touch? =some a->a.loc= .cell ⟨b,off,none⟩->a.write=true->op.g=g):RdC (t++u) g b off:=by
 intro i a ha hl hw;rcases jM ha with⟨hi,h1⟩ | ⟨op,ho,hm,h1⟩
 ·exact(h i a h1 hl hw).app u
 have:=knows_own ho;rwa[hu op hm a h1 hl hw]at this
theorem TK.step(h:TK t n w.heap.size dv)(hj:j<n)(hk:yP k w)(g:iR k M w w' es)(hO:∀b,M b->lI (k b)=false->Own t j b)(hR:∀b,(k b).isSome=true->lI (k b)=false->Rd t j b)(hV:∀b c po off,k b=some (bn c po)->off<c.size->off≠po->RdC t j b off):
  TK (t++MemOp.ofEvents j fn pos es) n w'.heap.size dv:=by
 refine⟨fun op aY a hm=>?_,fun said=>?_,fun i a b ha hb=>?_,fun op aY=>?_,fun x=>?_,SL h.said fun op aY a ha hs=>?_⟩
 ·rcases Array.mem_append.1 aY with h1 | h1
  ·exact h.norel op h1 a hm
  obtain⟨e,he,rfl⟩:=mem_ofEvents h1;have:=Z4 (g.jv e he) hm
  cases this
 ·refine noRace_append (h.clean said) (fun op aY=>by obtain⟨e,_,rfl⟩:=mem_ofEvents aY;rfl) fun i a ha op aY b hb hc=>?_;obtain⟨e,he,rfl⟩:=mem_ofEvents aY;obtain⟨bl,h1,_,h3,h4,h5⟩:=wV (g.jv e he) hb;have Gn:In a.loc bl:=by rw[hc.1];exact h1
  rcases h5 with⟨h5,h6,h7⟩ | h5 | ⟨h5,off,c,po,h6,h7,h8,h9⟩
  ·cases hw:b.write with
   | true=>exact hO bl (h7 hw) h6 i a ha Gn
   | false=>
    have haw:a.write=true:=by
     rcases hc.2.2.1 with h | h
     ·exact h
     rw[hw]at h;cases h
    exact hR bl h5 h6 i a ha Gn haw
  ·exact absurd (h.below i a bl ha Gn) aj
  exact hV bl c po off h7 h8 h9 i a ha (hc.1.trans h6) (hc.2.2.1.resolve_right (by rw[h5];simp))
 ·rcases jM ha with⟨_,h1⟩ | ⟨op,_,hm,h1⟩
  ·exact Nat.lt_of_lt_of_le (h.below i a b h1 hb) g.size
  obtain⟨e,he,rfl⟩:=mem_ofEvents hm;obtain⟨bl,_,h2,_,_,h5⟩:=wV (g.jv e he) h1;obtain rfl:=h2 b hb;rcases h5 with⟨h5,_⟩ | h5 | ⟨_,_,_,_,_,h5,_⟩
  ·obtain⟨o,ho⟩:=iJ.1 h5;exact Nat.lt_of_lt_of_le (hk.lt ho) g.size
  ·exact h5.2
  exact Nat.lt_of_lt_of_le (hk.lt h5) g.size
 ·rcases Array.mem_append.1 aY with h1 | h1
  ·exact h.who op h1
  obtain⟨e,_,rfl⟩:=mem_ofEvents h1;exact hj
 ·rw[ac1 (fun e he m hm=>Z4 (g.jv e he) hm)];exact h.deaf x
 obtain⟨e,he,rfl⟩:=mem_ofEvents aY;obtain⟨_,_,_,h3,_⟩:=wV (g.jv e he) ha;rw[h3]at hs;cases hs

theorem SN(wz:∀i a b,touchAt t i=some a->In a.loc b->b<w.heap.size)(b:Nat)(hb:grown M w w' b)(hO:M b->Own t j b):Own (t++MemOp.ofEvents j fn pos es) j b:=by
 refine Own.app ?_ fun op aY _ _ _=>by obtain⟨e,_,rfl⟩:=mem_ofEvents aY;rfl
 rcases hb with hb | hb
 ·exact hO hb
 exact fun i a ha hl=>absurd (wz i a b ha hl) aj
theorem alm(wz:∀i a b,touchAt t i=some a->In a.loc b->b<w.heap.size)(hR:∀b,(k b).isSome=true->lI (k b)=false->Rd t j b):∀b,(snap k w w' b).isSome=true->lI (snap k w w' b)=false->Rd (t++MemOp.ofEvents j fn pos es) j b:=by
 intro b hb hc;refine Rd.app ?_ fun op aY _ _ _ _=>by obtain⟨e,_,rfl⟩:=mem_ofEvents aY;rfl
 by_cases hk:(k b).isSome=true
 ·exact hR b hk (Z5 b hc)
 have hkn:k b=none:=by simpa using hk
 have:w.heap.size<=b:=by
  simp only[snap,hkn,lI]at hb;by_cases h3:w.heap.size<=b/\b<w'.heap.size
  ·exact h3.1
  have h7:(decide (w.heap.size<=b)&&decide (b<w'.heap.size))=false:=by simpa using h3
  simp[h7]at hb
 exact fun i a ha hl=>absurd (wz i a b ha hl) aj
theorem SQ(g:iR k M w w' es)(hb:b<w.heap.size)(hn:(k b).isSome=true->lI (k b)=true)(hv:∀c po,k b≠some (bn c po)):∀op∈MemOp.ofEvents j fn pos es,∀a,op.act.touch? =some a->¬In a.loc b:=by
 intro op aY a ha hl;obtain⟨e,he,rfl⟩:=mem_ofEvents aY;obtain⟨bl,_,h2,_,_,h5⟩:=wV (g.jv e he) ha;obtain rfl:=h2 b hl;rcases h5 with⟨h5,h6,_⟩ | h5 | ⟨_,_,c,po,_,h5,_⟩
 ·rw[hn h5]at h6;cases h6
 ·omega
 exact absurd h5 (hv c po)

structure Vs(t:Trace)(j size:Nat)(u:Trace):Prop where
 g:∀op∈u,op.g=j
 touch:∀op∈u,∀a,op.act.touch? =some a->a.kind≠ .plain/\(a.kind= .said->j=0)/\∃b,In a.loc b/\(∀b',In a.loc b'->b'=b)/\b<size/\PlK t j b
 norel:∀op∈u,∀a,op.act≠ .mark (.release a)

theorem TK.sh{anE:Nat}{dv':Nat->Nat}(h:TK t n size dv)(hj:j<n)(hn:n<=n')(hs:size<=anE)(hu:Vs t j size u)(hd:∀g,Deaf (t++u) g=dv' g):TK (t++u) n' anE dv':=by
 refine⟨fun op aY a hm=>?_,fun said=>?_,fun i a b ha hb=>?_,fun op aY=>?_,hd,SL h.said fun op aY a ha hsd=>?_⟩
 ·rcases Array.mem_append.1 aY with h1 | h1
  ·exact h.norel op h1 a hm
  exact hu.norel op h1 a hm
 ·refine noRace_append (h.clean said) hu.g fun i a ha op aY b hb hc=>?_;obtain⟨h1,h2,bl,h3,_,_,h4⟩:=hu.touch op aY b hb;have Gn:In a.loc bl:=by rw[hc.1];exact h3
  rcases hc.2.2.2 with h5 | h5 | ⟨_,h5,h6⟩
  ·exact h4 i a ha Gn h5
  ·exact absurd h5 h1
  have h7:=h.said i a ha h5;obtain rfl:=h2 h6;obtain⟨x,hx,_⟩:=touch_of ha;have:=knows_own hx;simp only[Trace.g?,hx,Option.map_some,dY]at h7;rwa[h7]at this
 ·rcases jM ha with⟨_,h1⟩ | ⟨op,_,hm,h1⟩
  ·exact Nat.lt_of_lt_of_le (h.below i a b h1 hb) hs
  obtain⟨_,_,bl,_,h3,h4,_⟩:=hu.touch op hm a h1;rw[h3 b hb];omega
 ·rcases Array.mem_append.1 aY with h1 | h1
  ·exact Nat.lt_of_lt_of_le (h.who op h1) hn
  rw[hu.g op h1];omega
 rw[hu.g op aY];exact(hu.touch op aY a ha).2.1 hsd

theorem Vs.own(hu:Vs t j size u)(h:Own t g b)(hb:∀op∈u,∀a,op.act.touch? =some a->¬In a.loc b):Own (t++u) g b:=h.app fun op aY a ha hl=>absurd hl (hb op aY a ha)
theorem Vs.rd(hu:Vs t j size u)(h:Rd t g b)(hb:∀op∈u,∀a,op.act.touch? =some a->¬In a.loc b):Rd (t++u) g b:=h.app fun op aY a ha hl _=>absurd hl (hb op aY a ha)
theorem Vs.plk(hu:Vs t j size u)(h:PlK t g b):PlK (t++u) g b:=h.app fun op aY a ha _ hp=>absurd hp (hu.touch op aY a ha).1

theorem aad(hn:∀op∈t,∀a,op.act≠ .mark (.release a))(hp:t.act? p=some (.mark (.releaseMerge a)))(hh:t.heard p)(hz:z.act= .mark (.acquire a))(hd:Deaf t z.g=0):HappensBefore (t++ #[z]) p t.size:=by
 have hq:(t++ #[z])[t.size]? =some z:=by simp
 have fK:=lt_of_act? hp;refine .single (.inr ⟨.marked fK (.inr (by rw[act?_old fK];exact hp)) (by simp[Trace.act?,hq,hz]) (fun k _ _ hk=>?_),(heard_old fK).2 hh,⟨z.g,by simp[Trace.g?,hq],by rw[deaf_old (Nat.le_refl _)];exact hd⟩⟩);obtain⟨op,ho,hoa⟩:=jR.1 hk;rcases Array.mem_append.1 (mem_of_getElem? ho)with h1 | h1
 ·exact hn op h1 a hoa
 obtain rfl:op=z:=by simpa using h1
 rw[hz]at hoa;cases hoa
theorem Yo(hn:∀op∈t,∀a,op.act≠ .mark (.release a))(hp:t.act? p=some (.mark (.releaseMerge a)))(hh:t.heard p)(hz:z.act= .mark (.acquire a))(hd:Deaf t z.g=0)(hb:Before t i p):Knows (t++ #[z]) z.g i:=
 ⟨t.size,z,by simp,O,.inr ((hb.app #[z]).hb (aad hn hp hh hz hd))⟩
theorem Own.before(h:Own t g b){y:MemOp}(hy:y.g=g){a:Touch}(ha:touchAt t i=some a)(hl:In a.loc b):Before (t++ #[y]) i t.size:=
 .inr ((h i a ha hl).hb_new (Nat.le_refl _) (by simp) hy)
end step
end Go.jc

namespace Go.jc
open Go.Conc (crowd parked rcase scase QuitsIn QuitsD Before Knows knows_own touchAt touchAt_of touchAt_old noRace_append getElem?_append_old getElem?_append_cases lt_size_of_getElem? touch_of hb_po mem_of_getElem? hb_app ofEvents_eq woken Deaf deaf_old g?_old act?_old heard_old lt_of_act? Deaf_own Deaf_other counts_old deaf_inside)
open Go.ConcM (OsLater)
open Go.ConcN (RelBy)
def mO(l:List Value):Obj:=.chan 1 l.toArray false 0 0 false
def Fg:Obj:=.chan 1 #[] true 0 0 false
def dM(k:Hp)(c:Nat)(o:Obj):Hp:=⟨fun b=>if b=c then some o else k b,k.z⟩
def LH(k:Hp)(M:Nat->Prop):Prop:=∀b,M b->(k b).isSome=true
def yF(c:Nat):Array Event:= #[⟨.obj c,false,true⟩,⟨.obj c,true,true⟩]
inductive Ch(P:Program)(c:Nat):Goroutine->Hp->(Nat->Prop)->Prop
 | step {g:Goroutine} {k:Hp} {M:Nat->Prop} (hs:g.status= .running)
   (ok:∀w,yP k w->LH k M->∃g' w' es,stepG P false g w= .go g' w' es/\iR k M w w' es)
   (h:∀w g' w' es,yP k w->LH k M->stepG P false g w= .go g' w' es->Ch P c g' (snap k w w') (grown M w w')):Ch P c g k M
 | send {g g':Goroutine} {k:Hp} {M:Nat->Prop} {v z:Value} {l:List Value} (hs:g.status= .running) (hk:k c=some (mO (v::l)))
   (e:∀w,stepG P false g w= .comm g' #[scase c v z] true .send w #[]) (h:Ch P c (g'.finishComm P #[scase c v z] .send 0 undef false) (dM k c (mO l)) M):Ch P c g k M
 | close {g g':Goroutine} {k:Hp} {M:Nat->Prop} {n:Nat} (hs:g.status= .running) (hk:k c=some (mO [])) (hw:mayWake P g=true) (xK:g'.status= .running)
   (e:∀(w:World) s r,w.heap[c]? =some (.chan 0 #[] false s r false)->stepG P false g w= .go g' (w.shut c s r false) (yF c)) (h:QuitsIn P n g'):Ch P c g k M
theorem yG{l l':List Value}(h:(some (mO l):Option Obj)=some (mO l')):l=l':=by
 simp only[mO,dY,Obj.chan.injEq,true_and,and_true]at h;simpa using h
theorem y7{l:List Value}:mO l≠sZ:=by simp[mO,sZ]
theorem Yp:Fg≠sZ:=by simp[Fg,sZ]
theorem G6{l:List Value}:mO l≠Fg:=by simp[mO,Fg]
theorem bP(k:Hp)(c:Nat)(o:Obj):dM k c o c=some o:=by simp[dM]
variable{A:ah}{P:Program}{b b' c:Nat}{g:Goroutine}{k:Hp}{m:Bool}{o o':Obj}{π:qL}{E:π.S->Goroutine->Prop}{s:π.S}
theorem bJ(k:Hp)(o:Obj)(h:b≠c):dM k c o b=k b:=by simp[dM,h]
theorem Md(h:k c=some o')(mM:o'.isChan=true)(ho:o.isChan=true):lI (dM k c o b)=lI (k b)/\(dM k c o b).isSome=(k b).isSome:=by
 by_cases hb:b=c
 ·subst hb;simp[bP,h,lI,ho,mM]
 rw[bJ _ _ hb];exact⟨O,O⟩
def tu(t:Nat)(j:List Nat)(left:Nat):Obj:=.chan (t+3) (j.map fun n:Nat=>Value.int .i64 (n:Int)).toArray false 0 left false
def wW:Obj:=.chan 3 #[] true 0 0 false
theorem G7(t:Nat)(j:List Nat)(l:Nat):ji (tu t j l)=true:=by simp[tu,ji,Nat.ble_eq]
theorem aln{t l t' l':Nat}{j j':List Nat}(h:tu t j l=tu t' j' l'):t=t'/\j=j'/\l=l':=by
 simp only[tu,Obj.chan.injEq]at h;refine⟨aj,?_,aj⟩;have h2:=congrArg Array.toList h.2.1;exact(List.map_inj_right (fun a b e=>by injection e with _ e;exact Int.ofNat.inj e)).1 h2
def zV(k:Hp)(b:Nat):Hp:=⟨fun x=>if x=b then none else k x,k.z⟩
def Me(k:Hp)(F:ah):Hp:=⟨fun x=>if(F.lookup x).isSome then none else k x,k.z⟩
def qN(k:Hp)(F:ah):Hp:=⟨fun b=>match F.lookup b with | some o=>some o | none=>k b,k.z⟩
inductive qO(P:Program)(m:Bool)(π:qL)(E:π.S->Goroutine->Prop):π.S->Goroutine->Type
 | exit {s:π.S} {g:Goroutine} (hs:g.status= .running) (h:E s g):qO P m π E s g
 | idle {s:π.S} {g g':Goroutine} (hs:g.status= .running) (e:∀w,stepG P m g w= .go g' w #[]) (h:qO P m π E s g'):qO P m π E s g
 | act {s:π.S} {g:Goroutine} (a:π.A) (hs:g.status= .running) (hc:π.can a s) (ho:g.offers=none)
   (wait:∀w x,π.at_ w x->π.rel a s x->π.blk a x->stepG P m g w= .go {g with status:=.blocked} w #[])
   (ok:∀w x,π.at_ w x->π.rel a s x->¬π.blk a x->∃g',stepG P m g w= .go g' (π.LG a x w) (π.jv a x)/\g'.status= .running)
   (wk:π.wak a->mayWake P g=true) (fr:π.free a->∃g' es,(∀e∈es,Event.mute e=true)/\∀w,stepG P m g w= .go g' w es)
   (h:∀w x g' w' es s',π.at_ w x->π.rel a s x->¬π.blk a x->stepG P m g w= .go g' w' es->π.nxt a s x s'->qO P m π E s' g'):qO P m π E s g
theorem lD.tree(T:lD P m π E s g):Nonempty (qO P m π E s g):=by
 induction T with
 | exit hs h=>exact⟨.exit hs h⟩
 | idle hs e _ ih=>exact ih.elim fun t=>⟨.idle hs e t⟩
 | act a hs hc ho wait ok wk fr _ ih=>exact⟨.act a hs hc ho wait ok wk fr fun w x g' w' es s' h1 h2 h3 h4 h5=>Classical.choice (ih w x g' w' es s' h1 h2 h3 h4 h5)⟩
theorem qO.status(T:qO P m π E s g):g.status= .running:=by cases T <;>assumption
def Gone(P:Program)(s:LS)(g:Goroutine):Prop:=s= .dn .gone 0/\∃n,QuitsIn P n g
theorem CJ(k:Hp)(b:Nat):zV k b b=none:=by simp[zV]
theorem lM(k:Hp)(h:b'≠b):zV k b b'=k b':=by simp[zV,h]
theorem aZ(h:dM k b o b'=some o'):(b'=b/\o'=o)\/(b'≠b/\k b'=some o'):=by
 by_cases e:b'=b
 ·subst e;rw[bP]at h;cases h;exact .inl ⟨rfl,rfl⟩
 rw[bJ _ _ e]at h;exact .inr ⟨e,h⟩
theorem y8(h:zV k b b'=some o):b'≠b/\k b'=some o:=by
 by_cases e:b'=b
 ·subst e;rw[CJ]at h;cases h
 rw[lM _ e]at h;exact⟨e,h⟩
theorem qP:lI (some o)=o.isChan:=rfl
theorem jO(h:A.lookup b=some o):(b,o)∈A:=by
 induction A with
 | nil=>simp at h
 | cons p A ih=>
  obtain⟨b',o'⟩:=p;simp only[List.lookup_cons]at h;split at h
  ·rename_i e;have:b=b':=by simpa using e
   cases h;subst this;exact bT ..
  exact dH _ (ih h)
theorem AU(h:(b,o)∈A):(A.lookup b).isSome=true:=by
 induction A with
 | nil=>cases h
 | cons p A ih=>
  obtain⟨b',o'⟩:=p;simp only[List.lookup_cons];split
  ·rfl
  rcases bU.1 h with h | h
  ·cases h
   rename_i e;simp at e
  exact ih h
theorem sJ(h:Me k A b=some o):A.lookup b=none/\k b=some o:=by
 simp only[Me]at h
 cases e:A.lookup b with
 | none=>rw[e]at h;exact⟨rfl,h⟩
 | some o'=>rw[e]at h;cases h
theorem Ee(h:A.lookup b=none):Me k A b=k b:=by simp[Me,h]
theorem ac2{a:Nat}{b:List Nat}:tu a b c≠wW:=by simp[tu,wW]

def PEv(k:Hp)(M:Nat->Prop)(e:Event):Prop:=e=yw .disable\/e=yw .enable\/(∃a,e=yw (.acquire a))\/(∃a,e=yw (.releaseMerge a))\/∃a,(e=FM a\/e=Kt a)/\M a.block/\(k a.block).isSome=true/\lI (k a.block)=false
def Ox(k:Hp)(M:Nat->Prop)(d:Nat)(es:Array Event)(d':Nat):Prop:=(∀e∈es,PEv k M e)/\deafBehind d es=d'

structure GP extends Grp where
 R:Nat->ah->Prop
 X:Nat
 q:Nat
 tX:TypeId
 fX:Nat×Nat
def GP.hole(γ:GP):Addr:=⟨γ.X,γ.q,none⟩
inductive Vg(P:Program)(γ:GP)(j:Nat):Nat->Goroutine->Hp->(Nat->Prop)->Type
 | step {d:Nat} {g:Goroutine} {k:Hp} {M:Nat->Prop} (hs:g.status= .running)
   (ok:∀w,yP k w->LH k M->∃g' w' es,stepG P false g w= .go g' w' es/\iR k M w w' es)
   (h:∀w g' w' es,yP k w->LH k M->stepG P false g w= .go g' w' es->Vg P γ j d g' (snap k w w') (grown M w w')):Vg P γ j d g k M
 | y9 {d d':Nat} {g:Goroutine} {k:Hp} {M:Nat->Prop} (hs:g.status= .running)
   (ok:∀w,yP k w->LH k M->∃g' w' es,stepG P false g w= .go g' w' es/\iR k M w w' #[]/\Ox k M d es d')
   (h:∀w g' w' es,yP k w->LH k M->stepG P false g w= .go g' w' es->Vg P γ j d' g' (snap k w w') (grown M w w')):Vg P γ j d g k M
 | done {g:Goroutine} {k:Hp} {M:Nat->Prop} (A:ah) (hA:∀b o,(b,o)∈A->k b=some o/\M b/\o.isChan=false) (hn:(A.map (·.1)).Nodup) (hR:γ.R j A)
   (T:qO P false (gJ γ.toGrp) (Gone P) (.dn .live 0) g):Vg P γ j 0 g k M
abbrev Wk(P:Program)(γ:GP)(j:Nat)(g:Goroutine)(k:Hp)(M:Nat->Prop):Prop:=Nonempty (Vg P γ j 0 g k M)
theorem Vg.status{γ:GP}{j d:Nat}{M:Nat->Prop}(T:Vg P γ j d g k M):g.status= .running:=by
 cases T with
 | step hs _ _=>exact hs
 | y9 hs _ _=>exact hs
 | done _ _ _ _ T=>exact T.status
inductive qQ(P:Program)(Fin:Goroutine->Hp->(Nat->Prop)->Prop):Option GP->Nat->Goroutine->Hp->(Nat->Prop)->Prop
 | fin {g:Goroutine} {k:Hp} {M:Nat->Prop} (h:Fin g k M):qQ P Fin none 0 g k M
 | step {q:Option GP} {d:Nat} {g:Goroutine} {k:Hp} {M:Nat->Prop} (hs:g.status= .running)
   (ok:∀w,yP k w->LH k M->∃g' w' es,stepG P true g w= .go g' w' es/\iR k M w w' es)
   (h:∀w g' w' es,yP k w->LH k M->stepG P true g w= .go g' w' es->qQ P Fin q d g' (snap k w w') (grown M w w')):qQ P Fin q d g k M
 | y9 {q:Option GP} {d d':Nat} {g:Goroutine} {k:Hp} {M:Nat->Prop} (hs:g.status= .running)
   (ok:∀w,yP k w->LH k M->∃g' w' es,stepG P true g w= .go g' w' es/\iR k M w w' #[]/\Ox k M d es d')
   (h:∀w g' w' es,yP k w->LH k M->stepG P true g w= .go g' w' es->qQ P Fin q d' g' (snap k w w') (grown M w w')):qQ P Fin q d g k M
 | spawn {g g' child:Goroutine} {k kc:Hp} {M M':Nat->Prop} {c:Nat} {l:List Value} (hs:g.status= .running) (xK:g'.status= .running) (hsc:child.status= .running)
   (e:∀w,stepG P true g w= .spawn g' child w #[]) (hk:k c=some sZ) (hM:M c) (Jf:kc c=some (mO l))
   (qB:∀b o,b≠c->kc b=some o->k b=some o/\o.isChan=false) (hc:Ch P c child kc (· =c))
   (SV:qA k M' M) (aae:M' c) (FP:∀b,b≠c->(kc b).isSome=true->¬M' b) (h:qQ P Fin none 0 g' (dM k c (mO l)) M'):qQ P Fin none 0 g k M
 | recv {g g':Goroutine} {k:Hp} {M:Nat->Prop} {c:Nat} {v z:Value} {l:List Value} (hs:g.status= .running) (hk:k c=some (mO (v::l))) (hM:M c) (Oy:g'.frame=g.frame/\g'.callers=g.callers/\g'.dying=g.dying)
   (e:∀w,stepG P true g w= .comm g' #[rcase c z] true (.recv true) w #[]) (h:qQ P Fin none 0 (g'.finishComm P #[rcase c z] (.recv true) 0 v true) (dM k c (mO l)) M):qQ P Fin none 0 g k M
 | done {g g':Goroutine} {k:Hp} {M:Nat->Prop} {c:Nat} {z:Value} (hs:g.status= .running) (hk:k c=some (mO [])) (hM:M c) (Oy:g'.frame=g.frame/\g'.callers=g.callers/\g'.dying=g.dying)
   (e:∀w,stepG P true g w= .comm g' #[rcase c z] true (.recv true) w #[]) (h:qQ P Fin none 0 (g'.finishComm P #[rcase c z] (.recv true) 0 z false) (dM k c Fg) M):qQ P Fin none 0 g k M
 | opens {g:Goroutine} {k:Hp} {M:Nat->Prop} (γ:GP) (N:Nat) (c:Array Value) (hN:N<=63) (hk:k γ.Wg=some (SG γ.tW ⟨0,0,0⟩)) (hM:M γ.Wg) (iK:γ.X≠γ.Wg) (hX:k γ.X=some (.cells c γ.tX γ.fX)) (hMX:M γ.X)
   (h:qQ P Fin (some γ) 0 g (dM (dM k γ.Wg (tu 0 [] N)) γ.X (bn c c.size)) M):qQ P Fin none 0 g k M
 | Oz {γ:GP} {g g':Goroutine} {k:Hp} {M:Nat->Prop} {c:Array Value} {n:Nat} {v:Value} {t left:Nat} {j:List Nat} (hs:g.status= .running) (xK:g'.status= .running) (hkW:k γ.Wg=some (tu t j left)) (hk:k γ.X=some (bn c n)) (hM:M γ.X)
   (e:∀w,w.heap[γ.X]? =some (.cells c γ.tX γ.fX)->stepG P true g w= .go g' (w.setCell γ.hole v) #[⟨.cell γ.hole,true,false⟩]) (h:qQ P Fin (some γ) 0 g' (dM k γ.X (bn (c.setIfInBounds γ.q v) n)) M):qQ P Fin (some γ) 0 g k M
 | add {γ:GP} {g:Goroutine} {k:Hp} {M:Nat->Prop} {left:Nat} {j:List Nat} (hk:k γ.Wg=some (tu 0 j left)) (hM:M γ.Wg) (E:LS->Goroutine->Prop)
   (T:lD P true (gJ γ.toGrp) E (.wg (.add 0) 0) g) (hE:∀s g',E s g'->s= .wg (.add 1) 0)
   (h:∀s g',E s g'->qQ P Fin (some γ) 0 g' (dM k γ.Wg (tu 1 j left)) M):qQ P Fin (some γ) 0 g k M
 | work {γ:GP} {g g' child:Goroutine} {k kc:Hp} {M M':Nat->Prop} {left:Nat} {j:List Nat} {τ:Nat} {A:ah} (hs:g.status= .running) (xK:g'.status= .running) (hsc:child.status= .running)
   (e:∀w,stepG P true g w= .spawn g' child w #[]) (hk:k γ.Wg=some (tu 1 j (left+1))) (hM:M γ.Wg) (qB:∀b o,kc b=some o->(k b=some o/\o.isChan=false)\/(b=γ.X/\∃c n,k γ.X=some (bn c n)/\c.size<=n/\o=bn c γ.q))
   (hA:∀b o,(b,o)∈A->kc b=some o/\k b=some o/\M b/\o.isChan=false) (hc:Wk P γ τ child kc fun b=>∃o,(b,o)∈A) (SV:qA k M' M) (ac3:M' γ.Wg) (FP:∀b,b≠γ.X->(kc b).isSome=true->¬M' b)
   (h:qQ P Fin (some γ) 0 g' (dM (Me k A) γ.Wg (tu 0 (j++[τ]) left)) M'):qQ P Fin (some γ) 0 g k M
 | wait {γ:GP} {g:Goroutine} {k:Hp} {M:Nat->Prop} {left n:Nat} {j:List Nat} {c:Array Value} (hk:k γ.Wg=some (tu 0 j left)) (hM:M γ.Wg) (hX:k γ.X=some (bn c n)) (E:LS->Goroutine->Prop)
   (T:lD P true (gJ γ.toGrp) E (.wg (.add 0) 0) g) (hE:∀s g',E s g'->s= .wg .out 0)
   (
    h:∀s g' (As:List ah),E s g'->As.length=j.length->(∀(i τ:Nat) (A:ah),As[i]? =some A->j[i]? =some τ->γ.R τ A)->(As.flatten.map (·.1)).Nodup->(∀b o,(b,o)∈As.flatten->k b=none/\¬M b/\o.isChan=false)->
    qQ P Fin (some γ) 0 g' (dM (dM (qN k As.flatten) γ.Wg wW) γ.X (.cells c γ.tX γ.fX)) (fun b=>M b\/∃o,(b,o)∈As.flatten)):qQ P Fin (some γ) 0 g k M
 | exit {γ:GP} {g:Goroutine} {k:Hp} {M:Nat->Prop} (hk:k γ.Wg=some wW) (h:qQ P Fin none 0 g (zV k γ.Wg) (fun b=>M b/\b≠γ.Wg)):qQ P Fin (some γ) 0 g k M
abbrev Mn(P:Program)(Fin:Goroutine->Hp->(Nat->Prop)->Prop):Goroutine->Hp->(Nat->Prop)->Prop:=qQ P Fin none 0
end Go.jc
