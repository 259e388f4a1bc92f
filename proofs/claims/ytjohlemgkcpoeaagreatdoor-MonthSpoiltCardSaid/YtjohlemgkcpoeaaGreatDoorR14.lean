/- The search for a way. Conditions: none; over the given program. (And 10 texts more.) -/
import Derived.Test.YtjohlemgkcpoeaaGreatDoorR13
import Derived.Test.YtjohlemgkcpoeaaGreatDoorR12
import Derived.Test.YtjohlemgkcpoeaaGreatDoorR11
import Derived.Test.YtjohlemgkcpoeaaGreatDoorR07
import Derived.Test.YtjohlemgkcpoeaaGreatDoorR09
set_option linter.unusedVariables false
set_option linter.unusedSimpArgs false
set_option linter.unusedSectionVars false
set_option maxRecDepth 100000
set_option maxHeartbeats 4000000

open Go.Proofs.Tryz
namespace Go.jc
theorem afl{T:Type}{most:Nat}:∀{todo:List (List Nat×T)},todo.length<=V8 most todo
 | []=>Nat.zero_le _
 | x::todo=>by
  have h1:=afl (most:=most) (todo:=todo);have hp:0<5 ^ (most+1-x.1.length):=Nat.pow_pos dF;simp only[V8,dQ,List.sum_cons,gK]at h1⊢;omega
variable{A F:ah}{B b k m o:Nat}{P:Program}{R:Value->LS->Prop}{U:ah->ah}{args:List Operand}{av c:Array Value}{ds:List Deferred}{e:Array Value->Sem Value}{f:FuncId}{h:Hp}{ks:List Int}{ob:Obj}{s s':LS}{t:Tm}{ts:Array TypeId}{u v:Value}{vs:List Value}{γ:GP}{ρ:Env}
theorem adN{a:Ag}(hk:k<m)(h:Zm a (t.at k)=false):adJ a t m=false:=by
 unfold adJ;rw[List.all_eq_false];exact⟨k,List.mem_range.2 hk,by simp[h]⟩
abbrev tmC(t:Tm):Array Value:= #[U8 t.a,U8 t.b,U8 t.c]
theorem ajZ{v:Nat}(hk:k<3)(ho:o=k):(tmC t).setIfInBounds o (U8 v)=tmC (t.up k v):=by
 subst ho
 match o,hk with
 | 0,_=>rfl
 | 1,_=>rfl
 | 2,_=>rfl
theorem auc{vx:Value}(hk:k<3)(ho:o=1+k):(#[vx,U8 t.a,U8 t.b,U8 t.c]:Array Value)[o]? =some (U8 (t.at k)):=by
 subst ho
 match k,hk with
 | 0,_=>rfl
 | 1,_=>rfl
 | 2,_=>rfl
structure FS where
 n:Nat
 met:List Tm
 todo:List (List Nat×Tm)
 vq:Value
 Sq:ah
 es:Array MapEntry
 ck:Nat
 qv:List (Value×Tm)
 Sw:ah
def axC(S:ah)(a:Value×Tm)(w:List Nat×Tm):Prop:=a.2=w.2/\one a.1=true/\Rn S a.1 (zs w.1)
structure FS.Mem(s:FS)(most:Nat):Prop where
 oq:Oq eX Ir s.vq s.qv s.Sq
 all:NV (axC s.Sw) s.qv s.todo
 map:JB s.es (s.met.map Tm.l) .u8
 cl:∀b o,(b,o)∈s.Sw->o.isChan=false
 ln:∀w∈s.todo,w.1.length<=most
 lt:∀w∈s.todo,w.2.lt
theorem aoo{a b c d:Nat×Obj}{Q S W:ah}:(a::b::c::d::(Q++(S++W))).Perm (S++(a::b::c::d::(Q++W))):=by
 show((a::b::c::d::Q)++(S++W)).Perm (S++((a::b::c::d::Q)++W));rw[<-eF,<-eF];exact dK.append_right _

abbrev aby(qb:Nat):Value:=.func (.func mF) #[aG qb] #[]
theorem UN(main:aN)(h:Hp)(qb mb:Nat)(vq:Value)(qv:List (Value×Tm))(Sq:ah)(es:Array MapEntry)(ck:Nat)(met:List Tm)(t:Tm)(vw:Value)(hO:Oq eX Ir vq qv Sq)(hM:JB es (met.map Tm.l) .u8)(hw:one vw=true)(hn:qv.length<=100000):
  gG aV main (aby qb) [tmV t,.agg #[vw,U8 t.a,U8 t.b,U8 t.c]] h ((qb,.cells #[vq,.map (some mb)] dN (0,0))::(mb,.map es ck)::Sq)
   (fun _ F=>∃vq' Sq' LM ck',Oq eX Ir vq' (if t∈met then qv else qv++[(vw,t)]) Sq'/\JB LM ((if t∈met then met else met++[t]).map Tm.l) .u8/\Sb ((qb,.cells #[vq',.map (some mb)] dN (0,0))::(mb,.map LM ck')::Sq') F):=
 gG.o9 (f:=mF) (fi:=[aG qb]) (ca:=[]) (amO main h qb mb dN vq qv Sq es ck met t vw hO hM hw hn)
theorem amR(main:aN)(h:Hp)(gs:List Ag)(vs:Value)(m most:Nat)(is:Tm->Bool)(isv:Value)(t0:Tm)(N:Nat)(hf:Sl h Ag.row vs gs)(uU:Iq gs)(hm:m<=3)(ht0:t0.lt)(h5:most<=5)(hN:5 ^ (most+1)<N)(hN2:N<=20000)
  (HI:∀h',Ext h h'->∀t:Tm,PuV aV main isv [tmV t] h' (.bool (is t))):
  bG aV main Jv #[.agg #[vs,NU gs.length],tmV t0,I m,I most,isv] h [] (fun v A=>match Ld (stT gs m) gs.length most is N [t0] [([],t0)]with
   | none=>∃s,v= .tuple #[s,.bool false]/\eH A
   | some w=>∃s S,v= .tuple #[s,.bool true]/\Rn S s (zs w)/\Sb S A):=by
 obtain⟨a,cap,rfl⟩:=hf.aU;have Zo:=uU.len;refine bG.bH func148 [(0,.agg #[.slice a gs.length cap,NU gs.length]),(1,tmV t0),(2,I m),(3,I most),(4,isv)] ?_;refine d_ ?_;refine aA.box (fun iI=>?_);refine aA.box (fun mX=>?_);refine kJ ?_;refine oe O wn O O (O7 O (fun mP hn0 hm0=>?_));refine b_ (dw (cs:= #[.slice none 0 0,.map (some mP)]) O O aB) O ?_;refine aA.box (fun pW=>?_);refine CW ?_;refine b_ (dw (cs:= #[.slice none 0 0,U8 t0.a,U8 t0.b,U8 t0.c]) O O aB) O ?_;refine cgv (A:=[(pW,.cells #[.slice none 0 0,.map (some mP)] dN (0,0)),(mP,.map #[] 0)]) (.head (G:=[_,_])) (fun h' hE hL=>UN main h' pW mP (.slice none 0 0) [] [] #[] 0 [] t0 (.slice none 0 0) (.inl ⟨O,O,.nil⟩) O O (Nat.zero_le _)) (fun v A' hv=>?_);obtain⟨vq0,Sq0,es0,ck0,hO0,hM0,axH⟩:=hv;simp only[List.not_mem_nil,if_false,List.nil_append]at hO0 hM0;refine d_ ?_
 refine W.loop (σ:=FS) (fun s=>s.Mem most/\Ld (stT gs m) gs.length most is s.n s.met s.todo=Ld (stT gs m) gs.length most is N [t0] [([],t0)]/\V8 most s.todo<s.n/\s.n<=20000) (fun s=>[(2,I m),(3,I most),(4,isv),(5,aG iI),(12,aG pW),(13,aby pW)])
  (fun s=>(iI,.cells #[.slice a gs.length cap,NU gs.length] jV (0,0))::(pW,.cells #[s.vq,.map (some mP)] dN (0,0))::(mP,.map s.es s.ck)::(s.Sq++s.Sw)) (fun s=>s.n) ⟨N,[t0],[([],t0)],vq0,Sq0,es0,ck0,[(.slice none 0 0,t0)],[]⟩
  ⟨⟨hO0,⟨⟨rfl,rfl,.nil⟩,trivial⟩,hM0,(fun _ _ h=>by cases h),(fun w hw=>by rw[dP.1 hw];exact Nat.zero_le _),(fun w hw=>by rw[dP.1 hw];exact ht0)⟩,rfl,by simp only[V8,dQ,List.map_nil,List.sum_cons,List.sum_nil,List.length_nil];omega,hN2⟩ iw ?_ ?_
 ·rw[List.append_nil];exact .trans (.aT (show List.Perm (_::((pW,.cells #[vq0,.map (some mP)] dN (0,0))::(mP,.map es0 ck0)::Sq0)) (((pW,.cells #[vq0,.map (some mP)] dN (0,0))::(mP,.map es0 ck0)::Sq0)++[_])from dK (l₁:=[_]))) (axH.app (.skip O .refl))
 rintro⟨n,met,todo,vq,Sq,es,ck,qv,Sw⟩ ⟨⟨hO,hA,hM,ZG,Xz,fK⟩,Za,oH,PX⟩;simp only at hO hA hM ZG Xz fK Za oH PX⊢;have hql:=hA.len
 have amQ:∀h',bG aV main ny #[aG pW] h' ((pW,.cells #[vq,.map (some mP)] dN (0,0))::(mP,.map es ck)::Sq) (fun v F=>∃(vx:Value) (tx:Tm) (mo:Bool),v= .tuple #[.agg #[vx,U8 tx.a,U8 tx.b,U8 tx.c],.bool mo]/\one vx=true/\(mo=false->todo=[]/\eH F)/\(mo=true->∃w Xp qv' vq',todo=(w,tx)::Xp/\qv=(vx,tx)::qv'/\Oq eX Ir vq' qv' Sq/\Sb ((pW,.cells #[vq',.map (some mP)] dN (0,0))::(mP,.map es ck)::Sq) F)):=by
  intro h'
  cases qv with
  | nil=>
   refine bG.mono (amP main h' pW mP _ vq Sq es ck hO) fun v F hv=>⟨_,⟨0,0,0⟩,false,hv.1,rfl,fun _=>⟨?_,hv.2⟩,(fun h=>by cases h)⟩
   exact jy.1 (by rw[<-hql];rfl)
  | cons x qv'=>
   cases todo with
   | nil=>cases hql
   | cons y Xp=>
    obtain⟨vx,tx⟩:=x;obtain⟨w,ty⟩:=y;obtain⟨⟨e1,e2,e3⟩,hA'⟩:=hA;simp only at e1 e2 e3;subst e1;refine bG.mono (aqD main h' pW mP _ vq vx tx qv' Sq es ck hO e2) fun v F hv=>⟨_,tx,true,hv.1,e2,(fun h=>by cases h),fun _=>?_⟩
    obtain⟨-,vq',h1,h2⟩:=hv;exact⟨w,Xp,qv',vq',O,O,h1,h2⟩
 refine W.block ?_;refine W.scope (fun _ _ _ _ h=>by rcases h.1 with h | h <;>cases h) ?_;refine gI ?_;refine cg (A:=(pW,.cells #[vq,.map (some mP)] dN (0,0))::(mP,.map es ck)::Sq) (.tail .head) (fun h' hE hL=>amQ h') (fun v A' hv=>?_);obtain⟨vx,tx,mo,rfl,Vh,hp1,hp2⟩:=hv;clear amQ;refine gI ?_;refine aA.new (fun Zu=>?_);refine aA.Yi (vs:= #[vx,U8 tx.a,U8 tx.b,U8 tx.c]) ?_ (h1:=by show(one vx&&true)=true;rw[Vh];rfl);refine kR ?_;refine W.cond O (fun c36=>?_) (fun c36=>?_)
 ·obtain⟨rfl,yu⟩:=hp1 (by simpa using c36);refine gZ ?_;have xJ:Ld (stT gs m) gs.length most is N [t0] [([],t0)]=none:=by rw[<-Za];cases n <;>rfl
  rw[xJ];exact iQ (vs:=[.slice none 0 0,.bool false]) ⟨_,O,.cons O (.cons O (yu.app (eH.NW ZG)))⟩
 obtain⟨w,todo,qv,vq,rfl,rfl,hOn,bF⟩:=hp2 (by simpa using c36);clear hO;have hO:=hOn;clear hOn;obtain rfl:mo=true:=by simpa using c36
 obtain⟨⟨-,-,hxR⟩,hA⟩:=hA;simp only at hxR;obtain⟨ax,J9,rfl⟩:=hxR.sl;rw[rZ]at hxR Vh;have htl:tx.lt:=fK _ (bT ..);have hwl:w.length<=most:=Xz _ (bT ..);obtain⟨n,rfl⟩:∃k,n=k+1:=⟨n-1,aj⟩
 simp only[Ld]at Za;rw[rZ];refine W.sb (F':=(Zu,.cells #[.slice ax w.length J9,U8 tx.a,U8 tx.b,U8 tx.c] eX (0,0))::(iI,.cells #[.slice a gs.length cap,NU gs.length] jV (0,0))::(pW,.cells #[vq,.map (some mP)] dN (0,0))::(mP,.map es ck)::(Sq++Sw)) (.cons (.cons (bF.app .refl))) ?_;refine kR ?_;refine cv (fun h' hE hL=>HI h' hE tx) ?_;refine qj ?_;refine W.cond O (fun c40=>?_) (fun c40=>?_)
 ·rw[if_pos c40]at Za;refine oz ?_;rw[<-Za];exact iQ (vs:=[.slice ax w.length J9,.bool true]) ⟨_,Sw,O,hxR,.skip O (.skip O (.skip O (.skip O (.left .refl hO.shut))))⟩
 rw[if_neg (by rw[c40];exact Bool.false_ne_true)]at Za;refine iC ?_;refine W.aJ O (fun c47=>?_) (fun c47=>?_)
 ·have hwm:w.length=most:=by omega
  rw[if_pos hwm]at Za;refine lF ?_;exact⟨O,⟨n,met,todo,vq,Sq,es,ck,qv,Sw⟩,⟨⟨hO,hA,hM,ZG,fun u hu=>Xz u (dH _ hu),fun u hu=>fK u (dH _ hu)⟩,Za,Nat.lt_of_lt_of_le abn (Nat.le_of_lt_succ oH),by simp only;omega⟩,Nat.lt_succ_self _,iw,.skip O .refl⟩
 have hwm:¬w.length=most:=by omega
 rw[if_neg hwm]at Za;refine gI ?_;refine W.label ?_;refine FT ?_
 have hq0:qv.length<=20000:=by
  have h1:=afl (most:=most) (todo:=(w,tx)::todo);simp only[gK]at hql h1;omega
 refine W.loop (σ:=Nat×FS) (fun s=>s.1<=gs.length/\s.2.Mem most/\s.2.n=n/\rD (stT gs m) w tx ((List.range gs.length).drop s.1) s.2.met s.2.todo=rD (stT gs m) w tx (List.range gs.length) met todo/\Rn s.2.Sw (.slice ax w.length J9) (zs w)/\s.2.qv.length<=20000+s.1)
  (fun s=>[(51,I s.1),(50,I gs.length),(49,.slice a gs.length cap),(2,I m),(3,I most),(4,isv),(5,aG iI),(12,aG pW),(13,aby pW),(14,aG Zu)])
  (fun s=>(Zu,.cells #[.slice ax w.length J9,U8 tx.a,U8 tx.b,U8 tx.c] eX (0,0))::(iI,.cells #[.slice a gs.length cap,NU gs.length] jV (0,0))::(pW,.cells #[s.2.vq,.map (some mP)] dN (0,0))::(mP,.map s.2.es s.2.ck)::(s.2.Sq++s.2.Sw)) (fun s=>gs.length-s.1) (0,⟨n,met,todo,vq,Sq,es,ck,qv,Sw⟩)
  ⟨Nat.zero_le _,⟨hO,hA,hM,ZG,fun u hu=>Xz u (dH _ hu),fun u hu=>fK u (dH _ hu)⟩,O,O,hxR,by simp only;omega⟩ iw .refl ?_
 rintro⟨i,⟨n1,QJ,abz,vq1,Sq1,es1,ck1,qv1,Sw1⟩⟩ ⟨hi,⟨hO1,hA1,hM1,agU,agV,agW⟩,hn1,hgr,adP,hq1⟩;simp only at hi hO1 hA1 hM1 agU agV agW hn1 hgr adP hq1⊢;subst hn1;refine kJ ?_;refine W.aJ O (fun c52=>?_) (fun c52=>?_)
 ·have Gp:i<gs.length:=by omega
  obtain⟨p,hp,yI⟩:=has Gp;obtain⟨b,off,c,E,fz,rfl,hb,hx,hy,hz⟩:=hf.at hp;have Aq:c.extract (off+i*5) (off+i*5+5)= #[I p.ne,I p.no,I p.ta,I p.le,I p.co]:=hx;clear hx hz;have hpo:=uU.ag p (dL hp)
  have hgd:(List.range gs.length).drop i=i::(List.range gs.length).drop (i+1):=by
   rw[List.drop_eq_getElem_cons (by simpa using Gp)];simp
  rw[hgd,rD]at hgr;have auf:∀f,f<64->agD p f=(V9 p f:Int)/\V9 p f<64:=fun f hf=>amB hf hpo.2.2.1 hpo.2.2.2.1;refine FT ?_;refine aA.new (fun agT=>?_);refine jk ?_;refine aA.new (fun abw=>?_);refine FT ?_
  refine W.loop (σ:=Nat) (fun k=>k<=m/\adJ p tx k=true) (fun k=>[(59,I k),(58,I m),(16,I i),(17,aG agT),(18,aG abw),(51,I i),(50,I gs.length),(49,.slice (some ⟨b,off,none⟩) gs.length cap),(2,I m),(3,I most),(4,isv),(5,aG iI),(12,aG pW),(13,aby pW),(14,aG Zu)])
   (fun k=>(abw,.cells (tmC (Zn p tx tx k)) kS (0,0))::(agT,.cells #[I p.ne,I p.no,I p.ta,I p.le,I p.co] zB (0,0))::(Zu,.cells #[.slice ax w.length J9,U8 tx.a,U8 tx.b,U8 tx.c] eX (0,0))::(iI,.cells #[.slice (some ⟨b,off,none⟩) gs.length cap,NU gs.length] jV (0,0))::(pW,.cells #[vq1,.map (some mP)] dN (0,0))::(mP,.map es1 ck1)::(Sq1++Sw1)) (fun k=>m-k) 0 ⟨Nat.zero_le _,O⟩ iw .refl ?_
  rintro k ⟨hk,iV⟩;have aj0:(Zn p tx tx k).lt:=afd htl (fun f hf=>(auf f hf).2) htl;refine kJ ?_;refine W.aJ O (fun c60=>?_) (fun c60=>?_)
  ·have hkm:k<m:=by omega
   have hk3:k<3:=by omega
   have nN:∀{o:Nat},o=1+k->(#[.slice ax w.length J9,U8 tx.a,U8 tx.b,U8 tx.c]:Array Value)[o]? =some (U8 (tx.at k)):=fun h=>auc hk3 h;have hpk:=auf (tx.at k) (tx.aog htl k);refine iC ?_;refine W.adI (n:=14) O ?_;refine ay 0 ?_;refine ay 1 ?_;refine ay 2 ?_;refine acp (i:=3) (hS:=.inr fun _ h=>jm _ h) (fun h' hE hL=>amC _ h' gs.length i Zo Gp) ?_;refine ay 4 ?_;refine ay 5 ?_
   first | refine aq (i:=6) (ZW rfl rfl) rfl (bD rfl rfl rfl rfl) rfl rfl ?_ | refine aq (i:=6) (Qm rfl rfl) rfl (bD rfl rfl rfl rfl) rfl rfl ?_
   refine aq (i:=7) (xO O O) O (bD O O O O) O O ?_;refine aq (i:=8) (o8 O O) O (bD O O O O) O O ?_
   first | refine aq (i:=9) (rM rfl rfl rfl) rfl (bD rfl rfl rfl rfl) rfl rfl ?_ | refine aq (i:=9) (kU rfl rfl rfl) rfl (bD rfl rfl rfl rfl) rfl rfl ?_
   refine aq (i:=10) (CG O O (hc:=nN aj)) O (bD O O O O) O O ?_;refine acp (i:=11) (hS:=.inr fun _ h=>jm _ h) (fun h' hE hL=>aqm _ h' p (tx.at k)) ?_;refine aq (i:=12) (PI O O) O (bD O O O O) O O ?_;refine ay 13 ?_;refine az ?_;refine fH ?_;refine W.cond O (fun c75=>?_) (fun c75=>?_)
   ·refine W.exit<|sG<|AP<|sG<|sG<|AP<|sG<|CB<|fH ?_
    first | (refine W.env aqH (W.sb aj1 ?_)) | skip
    refine lF ?_;have fP:stT gs m i tx=none:=by simp only[stT,hp,adN hkm (show Zm p (tx.at k)=false by simpa using c75)];rfl
    rw[fP]at hgr;exact⟨O,(i+1,⟨n1,QJ,abz,vq1,Sq1,es1,ck1,qv1,Sw1⟩),⟨Gp,⟨hO1,hA1,hM1,agU,agV,agW⟩,O,hgr,adP,by simp only;omega⟩,by simp only;omega,iw,.skip O (.skip O .refl)⟩
   refine d_ ?_;refine W.adI (n:=9) O ?_;refine ay 0 ?_;refine ay 1 ?_;refine ay 2 ?_;refine ay 3 ?_
   first | refine fJ 4 (rM rfl rfl rfl) rfl ?_ | refine fJ 4 (kU rfl rfl rfl) rfl ?_
   refine fJ 5 (CG O O (hc:=nN aj)) O ?_;refine acp (i:=6) (hS:=.inr fun _ h=>jm _ h) (fun h' hE hL=>show Pu aV main zq #[p.val,U8 (tx.at k)] h' (U8 (V9 p (tx.at k)))from by rw[show U8 (V9 p (tx.at k))= .int .u8 (agD p (tx.at k))from by rw[hpk.1]];exact aqn _ h' p _) ?_
   first | refine fJ 7 (rM rfl rfl rfl) rfl ?_ | refine fJ 7 (kU rfl rfl rfl) rfl ?_
   refine ae (i:=8) O an O O (eS O O O ?_ (hc:=by show 0+k*1<3;omega));refine⟨.inl aB,?_⟩;refine az ?_;refine lg ?_;exact⟨O,k+1,⟨hkm,by rw[agE,iV];simpa using c75⟩,aj,iw,by rw[Xw,<-ajZ hk3 (show 0+k*1=k by omega)];exact .refl⟩
  have hkm:k=m:=by omega
  rw[hkm]at iV aj0⊢;have fP:stT gs m i tx=some (Zn p tx tx m):=by simp only[stT,hp,iV,if_true]
  rw[fP]at hgr;simp only at hgr;generalize hu:Zn p tx tx m=u at hgr aj0⊢;refine gZ ?_;refine b_ (an_ (kd:=.u8) u.l tx.l O O O O O O O) O ?_;refine qj ?_;refine W.cond O (fun c88=>?_) (fun c88=>?_)
  ·have iK:u≠tx:=fun e=>by subst e;simp at c88
   refine W.mono (Q:=(fun e gW iT F'=>e= .normal/\iT=[]/\Sub [(51,I i),(50,I gs.length),(49,.slice (some ⟨b,off,none⟩) gs.length cap),(2,I m),(3,I most),(4,isv),(5,aG iI),(12,aG pW),(13,aby pW),(14,aG Zu)] gW/\∃(vy:Value) (S3:ah) (vq':Value) (Sq':ah) (LM:Array MapEntry) (ck':Nat),Rn S3 vy (zs (w++[i]))/\one vy=true/\Oq eX Ir vq' (if u∈QJ then qv1 else qv1++[(vy,u)]) Sq'/\JB LM ((if u∈QJ then QJ else QJ++[u]).map Tm.l) .u8/\
    Sb ((Zu,.cells #[.slice ax w.length J9,U8 tx.a,U8 tx.b,U8 tx.c] eX (0,0))::(iI,.cells #[.slice (some ⟨b,off,none⟩) gs.length cap,NU gs.length] jV (0,0))::(pW,.cells #[vq',.map (some mP)] dN (0,0))::(mP,.map LM ck')::(Sq'++(S3++Sw1))) F')) ?_ ?_
   ·refine W.adI (n:=11) O ?_;refine ay 0 ?_;refine ay 1 ?_;refine ay 2 ?_;refine ay 3 ?_;refine ay 5 ?_;refine ay 8 ?_;refine Any.Vp (i:=4) (j:=6) aB (aK O) (aK O) an an O O O O ?_ ?_
    ·refine(oL (args:=[_]) O O (fun h' hE hL=>DC _ h' (zs w) _ (adP.rd _ fun b o hb=>hL b o (.tail _ (.tail _ (.tail _ (.tail _ (.tail _ (.tail _ (bZ _ hb)))))))) (by rw[rZ];omega)) (fun v A' hv=>?_));refine⟨.inr (aC.app (by first | exact aC.refl | exact fun _ h=>h | (repeat(first | exact aC.nil | refine aC.one zS ?_)))),?_⟩;obtain⟨S1,hS1,UO⟩:=hv;refine Any.sb (UO.app .refl) ?_;refine abl (i:=6) (cs:= #[I i]) (fun aqI=>?_) rfl (hk:=by first | exact aC.app aC.refl | exact fun _ h=>bZ _ h | (exact aC.app (by repeat(first | exact aC.nil | refine aC.one zS ?_))));refine ae (i:=7) O an O O (bV (row:=bY) (l':=[(i:Int)]) O O O hS1 (.tail .head) (fun h2 _ hl=>Sl.mk (hl aqI _ (.head _)) O (Part.all [I i])) (by rw[rZ];simp;omega) dF O (fun v2 S2 hS2=>?_));refine⟨.inr (fun _ h=>dH _ (bZ _ (jm _ h))),?_⟩;have hn3:(zs w++[(i:Int)])=zs (w++[i]):=by simp[zs]
     rw[hn3]at hS2;obtain⟨S3,hS3,ajS⟩:=Rn.os hS2;obtain⟨a3,Zq,rfl⟩:=hS3.sl;refine fJ 9 (dw (cs:= #[.slice a3 (zs (w++[i])).length Zq,U8 u.a,U8 u.b,U8 u.c]) O O aB) O ?_ (hS:=(fun _ h=>dH _ (bZ _ (jm _ h))));refine ae (i:=10) O an O O (AL (A:=(pW,.cells #[vq1,.map (some mP)] dN (0,0))::(mP,.map es1 ck1)::Sq1) (args:=[_,_]) O O O (.tail (.app (.tail (.tail (.tail (.tail .head)))))) (fun h' hE hL=>UN main h' pW mP vq1 qv1 Sq1 es1 ck1 QJ u (.slice a3 (zs (w++[i])).length Zq) hO1 hM1 O aj) (fun v A2 hv=>?_));refine⟨.inl aB,?_⟩;obtain⟨vq2,Sq2,es2,ck2,Ci,hM2,pJ⟩:=hv;refine az ?_;refine⟨O,O,iw,_,S3,vq2,Sq2,es2,ck2,hS3,O,Ci,hM2,.trans (.aT aoo) (.skip O (ajS.app (.skip O (.skip O (.cons (.cons (pJ.app .refl)))))))⟩
    refine(Ea (cs:= #[I i]) O O dF dF aB fun aqI _ _=>⟨.inr (fun _ h=>dH _ (jm _ h)),?_⟩);refine ae (i:=4) O an O O (oL (args:=[_]) O O (fun h' hE hL=>DC _ h' (zs w) _ (adP.rd _ fun b o hb=>hL b o (.tail _ (.tail _ (.tail _ (.tail _ (.tail _ (.tail _ (.tail _ (bZ _ hb))))))))) (by rw[rZ];omega)) (fun v A' hv=>?_));refine⟨.inr awL,?_⟩;obtain⟨S1,hS1,UO⟩:=hv;refine Any.sb (UO.app .refl) ?_;refine ae (i:=7) O an O O (bV (row:=bY) (l':=[(i:Int)]) O O O hS1 .head (fun h2 _ hl=>Sl.mk (hl aqI _ (.head _)) O (Part.all [I i])) (by rw[rZ];simp;omega) dF O (fun v2 S2 hS2=>?_));refine⟨.inr (fun _ h=>bZ _ (dH _ (jm _ h))),?_⟩;have hn3:(zs w++[(i:Int)])=zs (w++[i]):=by simp[zs]
    rw[hn3]at hS2;obtain⟨S3,hS3,ajS⟩:=Rn.os hS2;obtain⟨a3,Zq,rfl⟩:=hS3.sl;refine fJ 9 (dw (cs:= #[.slice a3 (zs (w++[i])).length Zq,U8 u.a,U8 u.b,U8 u.c]) O O aB) O ?_ (hS:=(fun _ h=>bZ _ (dH _ (jm _ h))));refine ae (i:=10) O an O O (AL (A:=(pW,.cells #[vq1,.map (some mP)] dN (0,0))::(mP,.map es1 ck1)::Sq1) (args:=[_,_]) O O O (.app (.tail (.tail (.tail (.tail (.tail .head)))))) (fun h' hE hL=>UN main h' pW mP vq1 qv1 Sq1 es1 ck1 QJ u (.slice a3 (zs (w++[i])).length Zq) hO1 hM1 O aj) (fun v A2 hv=>?_));refine⟨.inl aB,?_⟩;obtain⟨vq2,Sq2,es2,ck2,Ci,hM2,pJ⟩:=hv;refine az ?_;refine⟨O,O,iw,_,S3,vq2,Sq2,es2,ck2,hS3,O,Ci,hM2,.trans (.aT aoo) (ajS.app (.skip O (.skip O (.skip O (.cons (.cons (pJ.app .refl)))))))⟩
   rintro e gW iT F' ⟨rfl,rfl,aqH,vy,S3,vq2,Sq2,es2,ck2,hR3,YZ,Ci,hM2,aj1⟩;refine d_ ?_
   first | (refine W.env aqH (W.sb aj1 ?_)) | skip
   refine lF ?_;have auh:∀b o,(b,o)∈S3++Sw1->o.isChan=false:=fun b o hb=>(dh.1 hb).elim (hR3.cl b o) (agU b o);by_cases hum:u∈QJ
   ·rw[if_pos hum]at Ci hM2;rw[if_pos (.inr hum)]at hgr;exact⟨O,(i+1,⟨n1,QJ,abz,vq2,Sq2,es2,ck2,qv1,S3++Sw1⟩),⟨Gp,⟨Ci,hA1.mono fun a b h=>⟨h.1,h.2.1,h.2.2.more hR3.cl⟩,hM2,auh,agV,agW⟩,O,hgr,adP.more hR3.cl,by simp only;omega⟩,by simp only;omega,iw,.refl⟩
   rw[if_neg hum]at Ci hM2;rw[if_neg (fun h=>h.elim iK hum)]at hgr;refine⟨O,(i+1,⟨n1,QJ++[u],abz++[(w++[i],u)],vq2,Sq2,es2,ck2,qv1++[(vy,u)],S3++Sw1⟩),⟨Gp,⟨Ci,NV.snoc ⟨O,YZ,hR3.left agU⟩ (hA1.mono fun a b h=>⟨h.1,h.2.1,h.2.2.more hR3.cl⟩),hM2,auh,fun x hx=>?_,fun x hx=>?_⟩,O,hgr,adP.more hR3.cl,by simp only[jA,gK,List.length_nil];omega⟩,by simp only;omega,iw,.refl⟩
   ·rcases dh.1 hx with hx | hx
    ·exact agV x hx
    rw[dP.1 hx];simp only[jA,gK,List.length_nil];omega
   rcases dh.1 hx with hx | hx
   ·exact agW x hx
   rw[dP.1 hx];exact aj0
  refine gI ?_
  first | (refine W.env aqH (W.sb aj1 ?_)) | skip
  refine lF ?_;have hue:u=tx:=Tm.aom (by simpa using c88);rw[if_pos (.inl hue)]at hgr;exact⟨O,(i+1,⟨n1,QJ,abz,vq1,Sq1,es1,ck1,qv1,Sw1⟩),⟨Gp,⟨hO1,hA1,hM1,agU,agV,agW⟩,O,hgr,adP,by simp only;omega⟩,by simp only;omega,iw,.skip O (.skip O .refl)⟩
 refine lg ?_;obtain rfl:i=gs.length:=by omega
 have hgz:(List.range gs.length).drop gs.length=[]:=by simp
 rw[hgz,rD]at hgr;have aui:=afc (st:=stT gs m) (most:=most) (t:=tx) (met:=met) (todo:=todo) Zo (show w.length<most by omega);rw[<-hgr]at Za aui;simp only at Za aui;exact⟨O,⟨n1,QJ,abz,vq1,Sq1,es1,ck1,qv1,Sw1⟩,⟨⟨hO1,hA1,hM1,agU,agV,agW⟩,Za,by simp only;omega,by simp only;omega⟩,Nat.lt_succ_self _,iw,.skip O .refl⟩
theorem Ro{m:Bool}(a:LA)(iV:oP a s)(Eo:∀y,¬yZ a y)(Q_:¬(a= .Kr\/a= .en))
  (ok:∀w y,Ku γ.toGrp w y->SI a s y->∃n,w.cell? ⟨b,0,none⟩=some (.int .u64 n)/\tq γ.toGrp a y w=w/\jH γ.toGrp a y= #[FM ⟨b,0,none⟩]/\∀s',Jh a s y s'->R (.int .u64 n) s'):
  nJ aV m (gJ γ.toGrp) Ac #[.pointer (some ⟨b,0,none⟩)] s R:=by
 refine nJ.gX func129 O (by show 1<=7;decide) [(0,.pointer (some ⟨b,0,none⟩))] ⟨O,trivial⟩ ?_;refine L.seq (L.region O ?_);refine lq O (gV O O) (fD ?_);refine L.seq (L.region O ?_);refine lq rfl (aP rfl rfl)<|lq rfl (dW rfl rfl)<|lq rfl (cO rfl rfl) ?_;refine lx (a:LA) O O iV Eo (fun w y h1 h2=>?_) (fun h=>absurd h Q_);obtain⟨n,e1,e2,e3,e4⟩:=ok w y h1 h2;refine⟨.int .u64 n,?_,fun s' hn=>?_⟩
 ·show Yields aV _ _ w _ (tq γ.toGrp a y w) (jH γ.toGrp a y);rw[e2,e3];exact ae9 e1
 refine lq O (gV O O) (fD ?_);refine L.ret ?_;exact jX (vs:=[_]) (e4 s' hn)

theorem aj2{m:Bool}{dl:Int}(a:LA)(iV:oP a s)(Eo:∀y,¬yZ a y)(Q_:¬(a= .Kr\/a= .en))
  (ok:∀w y,Ku γ.toGrp w y->SI a s y->∃n,w.cell? ⟨b,0,none⟩=some (.int .u64 n)/\w.frozen? ⟨b,0,none⟩=false/\tq γ.toGrp a y w=w.setCell ⟨b,0,none⟩ (.int .u64 (IntKind.u64.wrap (n+dl)))/\jH γ.toGrp a y= #[FM ⟨b,0,none⟩,Kt ⟨b,0,none⟩]/\∀s',Jh a s y s'->R (.int .u64 (IntKind.u64.wrap (n+dl))) s'):
  nJ aV m (gJ γ.toGrp) BG #[.pointer (some ⟨b,0,none⟩),.int .u64 dl] s R:=by
 refine nJ.gX func127 O (by show 2<=10;decide) [(0,.pointer (some ⟨b,0,none⟩)),(1,.int .u64 dl)] ⟨O,O,trivial⟩ ?_;refine L.seq (L.region O ?_);refine lq O (gV O O) (fD ?_);refine L.seq (L.region O ?_);refine lq rfl (aP rfl rfl)<|lq rfl (dW rfl rfl)<|lq rfl (cO rfl rfl)<|lq rfl (aP rfl rfl) ?_;refine lx (a:LA) O O iV Eo (fun w y h1 h2=>?_) (fun h=>absurd h Q_);obtain⟨n,e1,e1',e2,e3,e4⟩:=ok w y h1 h2;refine⟨.int .u64 (IntKind.u64.wrap (n+dl)),?_,fun s' hn=>?_⟩
 ·show Yields aV _ _ w _ (tq γ.toGrp a y w) (jH γ.toGrp a y);rw[e2,e3];exact ajr e1 e1'
 refine lq O (gV O O) (fD ?_);refine L.ret ?_;exact jX (vs:=[_]) (e4 s' hn)

theorem abA{m:Bool}{n:Int}(a:LA)(iV:oP a s)(Eo:∀y,¬yZ a y)(Q_:¬(a= .Kr\/a= .en))
  (ok:∀w y,Ku γ.toGrp w y->SI a s y->∃u,w.cell? ⟨b,0,none⟩=some u/\w.frozen? ⟨b,0,none⟩=false/\tq γ.toGrp a y w=w.setCell ⟨b,0,none⟩ (.int .u64 n)/\jH γ.toGrp a y= #[Kt ⟨b,0,none⟩]/\∀s',Jh a s y s'->R (.tuple #[]) s'):
  nJ aV m (gJ γ.toGrp) zn #[.pointer (some ⟨b,0,none⟩),.int .u64 n] s R:=by
 refine nJ.gX func130 O (by show 2<=9;decide) [(0,.pointer (some ⟨b,0,none⟩)),(1,.int .u64 n)] ⟨O,O,trivial⟩ ?_;refine L.region rfl<|lq rfl (aP rfl rfl)<|lq rfl (dW rfl rfl)<|lq rfl (cO rfl rfl)<|lq rfl (aP rfl rfl) ?_;refine lx (a:LA) O O iV Eo (fun w y h1 h2=>?_) (fun h=>absurd h Q_);obtain⟨u,e1,e1',e2,e3,e4⟩:=ok w y h1 h2;refine⟨.tuple #[],?_,fun s' hn=>fD ?_⟩
 ·show Yields aV _ _ w _ (tq γ.toGrp a y w) (jH γ.toGrp a y);rw[e2,e3];exact abg e1 e1'
 exact jX (vs:=[]) (e4 s' hn)

theorem aqJ{m:Bool}{o n:Int}(a:LA)(iV:oP a s)(Eo:∀y,¬yZ a y)(Q_:¬(a= .Kr\/a= .en))
  (
   ok:∀w y,Ku γ.toGrp w y->SI a s y->∃v,w.cell? ⟨b,0,none⟩=some (.int .u64 v)/\w.frozen? ⟨b,0,none⟩=false/\
   ((v=o/\tq γ.toGrp a y w=w.setCell ⟨b,0,none⟩ (.int .u64 n)/\jH γ.toGrp a y= #[FM ⟨b,0,none⟩,Kt ⟨b,0,none⟩]/\∀s',Jh a s y s'->R (.bool true) s')\/(¬v=o/\tq γ.toGrp a y w=w/\jH γ.toGrp a y= #[FM ⟨b,0,none⟩]/\∀s',Jh a s y s'->R (.bool false) s'))):
  nJ aV m (gJ γ.toGrp) qW #[.pointer (some ⟨b,0,none⟩),.int .u64 o,.int .u64 n] s R:=by
 refine nJ.gX func135 O (by show 3<=13;decide) [(0,.pointer (some ⟨b,0,none⟩)),(1,.int .u64 o),(2,.int .u64 n)] ⟨O,O,O,trivial⟩ ?_;refine L.seq (L.region O ?_);refine lq O (gV O O) (fD ?_);refine L.seq (L.region O ?_);refine lq rfl (aP rfl rfl)<|lq rfl (dW rfl rfl)<|lq rfl (cO rfl rfl)<|lq rfl (aP rfl rfl)<|lq rfl (aP rfl rfl) ?_;refine lx (a:LA) O O iV Eo (fun w y h1 h2=>?_) (fun h=>absurd h Q_);obtain⟨v,e1,e1',⟨rfl,e2,e3,e4⟩ | ⟨iK,e2,e3,e4⟩⟩:=ok w y h1 h2
 ·refine⟨.bool true,?_,fun s' hn=>?_⟩
  ·show Yields aV _ _ w _ (tq γ.toGrp a y w) (jH γ.toGrp a y);rw[e2,e3];exact ajs e1 e1'
  refine lq O (gV O O) (fD ?_);refine L.ret ?_;exact jX (vs:=[_]) (e4 s' hn)
 refine⟨.bool false,?_,fun s' hn=>?_⟩
 ·show Yields aV _ _ w _ (tq γ.toGrp a y w) (jH γ.toGrp a y);rw[e2,e3];exact amn e1 e1' iK
 refine lq O (gV O O) (fD ?_);refine L.ret ?_;exact jX (vs:=[_]) (e4 s' hn)
theorem aou{n:Int}(h0:0<=n)(h1:n<=18446744073709551615):IntKind.u64.wrap n=n:=IntWalk.u64_in n ⟨h0,h1⟩
theorem afm{n:Int}(h0:0<=n)(h1:n<=4294967295):IntKind.u32.wrap n=n:=IntWalk.u32_in n ⟨h0,h1⟩

theorem aqK{n:Int}(h0:0<=n)(h1:n<=18446744073709551615):IntKind.u64.wrap (n+18446744073709551616)=n:=by
 simp[IntKind.wrap,IntKind.bits,IntKind.signed];omega
def wgT(v w:Nat):Bool:=let n:Int:=((v*4294967296+w:Nat):Int)
 (bits .and .u64 n 2147483648==0)&&(bits .and .u64 n 2147483647==(w:Int))&&(IntKind.i32.wrap (n.fdiv (2 ^ (min (32:Int).toNat IntKind.u64.bits)))==(v:Int))&&(IntKind.u32.wrap w==(w:Int))
theorem amT:((List.range 67).all fun v=>(List.range 2).all fun w=>wgT v w)=true:=by kernel_rfl
theorem wgv{v w:Nat}(hv:v<67)(hw:w<2):bits .and .u64 ((v*4294967296+w:Nat):Int) 2147483648=0/\bits .and .u64 ((v*4294967296+w:Nat):Int) 2147483647=(w:Int)/\
  IntKind.i32.wrap (((v*4294967296+w:Nat):Int).fdiv (2 ^ (min (32:Int).toNat IntKind.u64.bits)))=(v:Int)/\IntKind.u32.wrap (w:Int)=(w:Int):=by
 have h:=amT;rw[List.all_eq_true]at h;have h:=h v (List.mem_range.2 hv);rw[List.all_eq_true]at h;have h:=h w (List.mem_range.2 hw);simp only[wgT,Bool.and_eq_true,beq_iff_eq]at h;exact⟨h.1.1.1,h.1.1.2,h.1.2,h.2⟩
theorem XE{G:Grp}{w:World}{y:xP}(h:Ku G w y):w.cell? ⟨G.Wg,0,none⟩=some (.int .u64 (y.st:Int))/\w.frozen? ⟨G.Wg,0,none⟩=false/\w.cell? ⟨G.Wg,1,none⟩=some (.int .u32 (y.ws:Int))/\w.frozen? ⟨G.Wg,1,none⟩=false:=aju h
section
variable{P:Program}{m:Bool}{γ:Grp}{fn:FuncId}
abbrev enD(f:FuncId):Deferred:={target:=.fn (.func f) #[],args:= #[]}
theorem Z8.en[i:XF P f (fun _=>do Go.mark .enable;pure Extern.Race.none_)]{K:LS->Prop}(iV:oP .en s)(hs:∀x wE,Jh .en s x wE->wE=s')(H:Z8 P m (gJ γ) fn ds s' K):Z8 P m (gJ γ) fn (enD f::ds) s K:=by
 refine⟨fun r h=>(by cases h),.inl ⟨(LA.en:LA),iV,fun y h=>h,(fun h=>by rcases h with h | h <;>cases h),fun w y _ _=>?_,fun _=>?_,fun y wE _ hn=>by rw[hs y wE hn];exact H⟩⟩
 ·obtain⟨r1,r2,r3⟩:=oD (P:=P) (f:=f) (w:=w) (args:= #[]) (m:=.enable) (by simp);obtain⟨es,e1,e2⟩:=Zj (f:=f) (e:=fun _=>do Go.mark .enable;pure Extern.Race.none_) (args:= #[]) r1 r2 r3;exact⟨_,es,e1,e2 fn⟩
 obtain⟨fn',h1,h2,h3,h4,h5⟩:=i.out;have VX:Extern.findNext fn'=none:=by simpa using h4
 refine⟨.tuple #[], #[⟨.mark (.extern f),false,true⟩]++ #[yw .enable],fun ev hev=>?_,fun w=>?_⟩
 ·obtain⟨_,_,r3⟩:=oD (P:=P) (f:=f) (w:=(default:World)) (args:= #[]) (m:=.enable) (by simp);rw[Conc.seen_entry _ _ _ r3]at hev;simp at hev;subst hev;rfl
 obtain⟨r1,r2,r3⟩:=oD (P:=P) (f:=f) (w:=w) (args:= #[]) (m:=.enable) (by simp);show(callFunc f #[]).runT P w #[]=_;rw[Sem.runT_eq,run_callFunc_extern h1 h2 h3 VX h5,r1,Conc.events_callFunc_extern h1 h2 h3 VX h5];simp only[List.push_toArray,List.nil_append];rw[r2]
 rfl
theorem sV{gn:Func}{e:Exit}[i:XF P f (fun _=>do Go.mark .enable;pure Extern.Race.none_)](iV:oP .en s)(hs:∀x wE,Jh .en s x wE->wE=s')(hR:R (.tuple #[]) s')(he:e= .ret\/e= .normal:=by first | exact .inl rfl | exact .inr rfl)(hv:acY ρ gn.results.toList=some []:=by rfl):
  Yl P m (gJ γ) fn gn R e ρ [enD f] s:=
 have:=jX (P:=P) (m:=m) (π:=gJ γ) (f:=fn) (fn:=gn) (R:=fun v s=>v= .tuple #[]/\s=s') (e:=e) (ρ:=ρ) (s:=s') (vs:=[]) ⟨O,O⟩ he hv
 ⟨he,Z8.en iV hs (by
  obtain⟨_,v,h1,rfl,_⟩:=this;exact⟨_,h1,hR⟩)⟩
end
section
variable{x:Lx}{Q:qM x.π}{ρ:Env}{ds:List Deferred}{s:x.π.S}{ops:Array Oper}{i d:Nat}{rest:List Nat}{ty:TypeId}{pos:String}{bW:Array Edge}{g:Option (Nat×Bool)}{f:FuncId}{e:Array Value->Sem Value}{args:List Operand}{ts:Array TypeId}{vs:List Value}
theorem lxb(a:x.π.A)(ho:dS ops.toList i=some ⟨some d,.call ⟨.value (.func f),args.toArray,ts⟩,ty,pos,bW,g⟩)[XF x.P f e](hv:jv ρ args=some vs)(iV:x.π.can a s)
  (hb:∀w y,x.π.at_ w y->x.π.rel a s y->x.π.blk a y->(e vs.toArray).run x.P w= .halt .blocked w)
  (ok:∀w y,x.π.at_ w y->x.π.rel a s y->¬x.π.blk a y->∃v,Yields x.P f (e vs.toArray) w v (x.π.LG a y w) (x.π.jv a y)/\∀s',x.π.nxt a s y s'->LO x ops rest Q ((d,v)::ρ) ds s')
  (fr:¬x.π.free a)
  (hw:gY ops ρ ⟨some d,.call ⟨.value (.func f),args.toArray,ts⟩,ty,pos,bW,g⟩:=by first | exact wn | exact aI rfl rfl rfl) (hd:Nat.blt d x.n=true:=by rfl):LO x ops (i::rest) Q ρ ds s:=
 LO.ext (o:=⟨some d,.call ⟨.value (.func f),args.toArray,ts⟩,ty,pos,bW,g⟩) a (aK ho) O hv hw hd iV hb ok fun h=>absurd h fr
theorem B_{op:Op}(ho:dS ops.toList i=some ⟨some d,op,ty,pos,bW,g⟩)(hy:Pv x ρ ⟨some d,op,ty,pos,bW,g⟩ v)(e:v=u)(H:LO x ops rest Q ((d,u)::ρ) ds s)(hw:gY ops ρ ⟨some d,op,ty,pos,bW,g⟩:=by first | exact wn | exact aI rfl rfl rfl)(hd:Nat.blt d x.n=true:=by rfl)(hn:fB op=true:=by rfl):LO x ops (i::rest) Q ρ ds s:=
 lq ho (e▸hy) H hw hd hn
theorem auj{fv:FuncId}(ho:dS ops.toList i=some ⟨none,.defer ⟨.value (.func fv), #[], #[]⟩,ty,pos,bW,none⟩)(H:LO x ops rest Q ρ (enD fv::ds) s):LO x ops (i::rest) Q ρ ds s:=by
 refine LO.defer (o:=⟨none,.defer ⟨.value (.func fv), #[], #[]⟩,ty,pos,bW,none⟩) (aK ho) O trivial O (fun e he=>?_) H;have e3:e (.func fv)= .func (.func fv) #[] #[]:=he _ _ O;simp only[resolve,List.map_toArray,e3,au]
 rfl
end
theorem L.afn{m:Bool}{γ:Grp}{fn:FuncId}{n:Nat}{c:Code}{Q:qM (gJ γ)}(e:s=s')(H:L ⟨P,m,gJ γ,fn,n⟩ c Q ρ ds s'):L ⟨P,m,gJ γ,fn,n⟩ c Q ρ ds s:=e▸H
theorem nJ.mono{m:Bool}{π:qL}{args:Array Value}{s:π.S}{R R':Value->π.S->Prop}(H:nJ P m π f args s R)(hr:∀v s,R v s->R' v s):nJ P m π f args s R':=
 fun c cs E hc=>H c cs E fun v s' r=>hc v s' (hr _ _ r)
section
variable{m:Bool}{B off:Nat}{c:Array Value}{ct:TypeId}{dd:Nat}
theorem afo(hc:c[off]? =some u):(c.setIfInBounds off v)[off]? =some v:=by
 have:=(Array.getElem?_eq_some_iff.1 hc).1;simp[this]

theorem aj3{v:Int}(hc:c[off]? =some (.int .u32 v)):nJ aV m (mQ B) sQ #[.pointer (some ⟨B,off,none⟩)] (⟨.cells c ct (0,0),dd⟩:VS) fun r s=>((v=0->r= .bool false)/\(v=1->r= .bool true))/\s=(⟨.cells c ct (0,0),dd⟩:VS):=by
 refine nJ.gX func143 O (by show 1<=8;decide) [(0,.pointer (some ⟨B,off,none⟩))] ⟨O,trivial⟩ ?_;refine L.seq<|L.region rfl<|lq rfl (gV rfl rfl)<|fD<|dI<|L.seq<|L.region rfl<|lq rfl (aP rfl rfl)<|lq rfl (dW rfl rfl)<|lq rfl (cO rfl rfl) ?_;refine pld O O hc ?_;refine lq O (Bh O O O) ?_;refine lq rfl (gV rfl rfl)<|fD<|dI<|L.ret ?_;exact jX (vs:=[.bool (decide (v≠0))]) ⟨⟨fun h=>by subst h;rfl,fun h=>by subst h;rfl⟩,O⟩

theorem agX(hc:c[off]? =some (.int .i32 0)):nJ aV m (mQ B) Hw #[.pointer (some ⟨B,off,none⟩)] (⟨.cells c ct (0,0),dd⟩:VS) fun v s=>v= .tuple #[]/\s=(⟨.cells (c.setIfInBounds off (.int .i32 1)) ct (0,0),dd⟩:VS):=by
 refine nJ.gX func89 O (by show 1<=13;decide) [(0,.pointer (some ⟨B,off,none⟩))] ⟨O,trivial⟩ ?_;refine L.seq<|L.region rfl ?_;refine atM O ?_;refine fD<|dI<|L.seq<|L.seq<|L.region rfl<|lq rfl (aP rfl rfl)<|lq rfl (dW rfl rfl)<|lq rfl (cO rfl rfl) ?_;refine aw9 O O O O hc ?_;refine fD<|dI ?_;refine L.kG ?_;refine L.seq ?_;refine L.kG ?_;refine L.seq<|L.region rfl ?_;refine atN O ?_;refine fD<|dI<|L.region rfl<|lq rfl (aP rfl rfl) ?_;refine pcv O O aB (afo hc) ?_;refine aw7 O O ?_;refine fD<|dI<|L.ret<|V7 ?_;exact jX (vs:=[]) ⟨O,O⟩
theorem aj6(hc:c[off]? =some (.int .i32 0)):nJ aV m (mQ B) AZ #[.pointer (some ⟨B,off,none⟩)] (⟨.cells c ct (0,0),dd⟩:VS) fun v s=>v= .tuple #[]/\s=(⟨.cells (c.setIfInBounds off (.int .i32 1)) ct (0,0),dd⟩:VS):=by
 refine nJ.gX func61 O (by show 1<=6;decide) [(0,.pointer (some ⟨B,off,none⟩))] ⟨O,trivial⟩ ?_;refine L.region rfl<|lq rfl (aP rfl rfl)<|lq rfl (dW rfl rfl)<|lq rfl (cO rfl rfl) ?_;refine lc (vs:=[_]) O O ?_ (hd:=rfl);refine nJ.mono (agX (B:=B) hc) ?_;rintro v s ⟨rfl,rfl⟩;refine fD ?_;exact jX (vs:=[]) ⟨O,O⟩
theorem abB(hc:c[off]? =some (.int .i32 1)):nJ aV m (mQ B) uy #[.pointer (some ⟨B,off,none⟩)] (⟨.cells c ct (0,0),dd⟩:VS) fun v s=>v= .tuple #[]/\s=(⟨.cells (c.setIfInBounds off (.int .i32 0)) ct (0,0),dd⟩:VS):=by
 have hq:(aV.funcs[uy]?).any (·.norace)=true:=by rw[func90];exact Zk
 refine nJ.gX func90 O (by show 1<=21;decide) [(0,.pointer (some ⟨B,off,none⟩))] ⟨O,trivial⟩ ?_;refine L.seq ?_;refine L.kG ?_;refine L.seq<|L.region rfl<|lq rfl (aP rfl rfl)<|lq rfl (dW rfl rfl)<|lq rfl (cO rfl rfl) ?_;refine pll O O hq hc ?_;refine fD<|dI<|L.seq<|L.region rfl<|lq rfl (aP rfl rfl) ?_;refine pcv O O aB hc ?_;refine aw8 O O ?_;refine fD<|dI<|L.region rfl ?_;refine atM O ?_;refine fD<|dI<|L.seq<|L.region rfl<|lq rfl (aP rfl rfl)<|lq rfl (dW rfl rfl)<|lq rfl (cO rfl rfl) ?_;refine aw_ O O O hc ?_;refine lq rfl (gV rfl rfl)<|fD<|dI<|L.seq<|L.seq<|L.region rfl<|lq rfl (aP rfl rfl) ?_;refine B_ (u:=.bool false) O (Bh O O O) O ?_;refine fD<|dI ?_;refine L.iq ?_;refine L.skip<|dI<|L.region rfl ?_;refine atN O ?_;refine fD ?_;exact jX (vs:=[]) ⟨O,O⟩
theorem abC(hc:c[off]? =some (.int .i32 1)):LFD aV m (mQ B) kK #[.pointer (some ⟨B,off,none⟩)] (⟨.cells c ct (0,0),dd⟩:VS) fun s=>s=(⟨.cells (c.setIfInBounds off (.int .i32 0)) ct (0,0),dd⟩:VS):=by
 refine LFD.gX func62 O (by show 1<=6;decide) [(0,.pointer (some ⟨B,off,none⟩))] ⟨O,trivial⟩ ?_;refine L.region rfl<|lq rfl (aP rfl rfl)<|lq rfl (dW rfl rfl)<|lq rfl (cO rfl rfl) ?_;refine lc (vs:=[_]) O O ?_ (hd:=rfl);refine nJ.mono (abB (B:=B) hc) ?_;rintro v s ⟨rfl,rfl⟩;refine fD ?_;exact jX (vs:=[]) O
end
section
variable{P:Program}{m:Bool}{B:Nat}{ob:Obj}{ops:Array Oper}{i:Nat}{rest:List Nat}{o:Oper}{ρ:Env}{ds:List Deferred}
theorem axO(a:VA){E:VS->Goroutine->Prop}{b:Frame}{tmps:Array Value}{k:List Item}{cs:List Frame}(ho:ops[i]? =some o)(hw:Region.wanted o (yielded ops tmps)=true)(DZ:∀c,o.op≠ .defer c)(fA:(b.kind==CallKind.early)=false)(iV:a.can ⟨ob,0⟩)(Q_:¬(a= .Kr\/a= .en))
  (ok:∀w,w.heap[B]? =some ob->∃es,(execOp (dR b tmps ds (.inRegion ops (i::rest)::k)).eval o).runT P w #[]=(.ok (.value v) (a.LG B w),es)/\seen P b.fn es=a.jv B)
  (hE:E ⟨a.obj ob,a.dep 0⟩ (G ((dR b tmps ds (.inRegion ops (i::rest)::k)).finish v) cs)):lD P m (mQ B) E (⟨ob,0⟩:VS) (G (dR b tmps ds (.inRegion ops (i::rest)::k)) cs):=by
 have fP:∀w,stepG P m (G (dR b tmps ds (.inRegion ops (i::rest)::k)) cs) w=stepG.apply P true (dR b tmps ds (.inRegion ops (i::rest)::k)) cs none (execOp (dR b tmps ds (.inRegion ops (i::rest)::k)).eval o) w:=fun w=>
  wC (P:=P) (main:=sd m) (ds:=ds) (rest:=rest) (b:=b) (k:=k) (cs:=cs) (w:=w) ho hw DZ
 have go:∀w,w.heap[B]? =some ob->stepG P m (G (dR b tmps ds (.inRegion ops (i::rest)::k)) cs) w= .go (G ((dR b tmps ds (.inRegion ops (i::rest)::k)).finish v) cs) (a.LG B w) (a.jv B):=fun w hw=>by
  obtain⟨es,hr,hs⟩:=ok w hw;rw[fP,oW (fr:=dR b tmps ds (.inRegion ops (i::rest)::k)) (cs:=cs) hr fA,show(dR b tmps ds (.inRegion ops (i::rest)::k)).fn=b.fn from rfl,hs]
 refine lD.act (π:=mQ B) a O iV O (fun w y _ _ h=>h.elim) (fun w y h1 h2 _=>⟨_,go w (by rw[show y=ob from h2]at h1;exact h1),O⟩) (fun h=>h.elim) (fun h=>absurd h Q_) fun w y g' w' es s' h1 h2 _ e hn=>?_;rw[go w (by rw[show y=ob from h2]at h1;exact h1)]at e
 cases e
 rw[show s'=(⟨a.obj ob,a.dep 0⟩:VS)from hn];exact .exit O hE
end
section rules
variable{x:Cx}{Q:fO}{ρ:Env}{ds:List Deferred}{F:ah}{ops:Array Oper}{i:Nat}{rest:List Nat}{o:Oper}{L:ah}{fuel listed:Nat}
theorem aA.act(a:VA){U:Obj->ah}(hP:r_ x.P x.main)(ho:ops[i]? =some o)(hw:gY ops ρ o)(hd:iy o.dst x.n=true)(DZ:∀c,o.op≠ .defer c)(iV:a.can ⟨ob,0⟩)(aj7:a.dep 0=0)(Q_:¬(a= .Kr\/a= .en))(hob:ob.isChan=false)
  (ok:∀e,Kn1 ρ e->∀w,w.heap[B]? =some ob->∃es,(execOp e o).runT x.P w #[]=(.ok (.value v) (a.LG B w),es)/\seen x.P x.fn es=a.jv B) (hl:At B ob F U) (H:aA x ops rest Q (put ρ o.dst v) ds (U (a.obj ob))):aA x ops (i::rest) Q ρ ds F:=by
 intro b k cs Stop tmps hk M h1 h0 h2 h3 h4 h5 hc;have fA:(b.kind==CallKind.early)=false:=by simpa using h2.1
 obtain⟨e1,e2,S1,f1⟩:=h5.FC (o':=a.obj ob) hl;obtain⟨hM,hwk⟩:=hP _ Stop.2.1;obtain⟨p1,p2⟩:=h3.Jg h4 hd v;have:=H b k cs Stop _ _ _ h1 h0 h2 p1 p2 S1 fun e gW iT G bC fA M' q a1 a2 a3 a4=>hc e gW iT G bC fA M' q a1 a2 a3 (f1.trans a4);refine .stop (hwk B ⟨ob,0⟩ _ hk M (fun s g=>s=⟨a.obj ob,0⟩/\g=G ((dR b tmps ds (.inRegion ops (i::rest)::k)).finish v) cs) (axO a ho (hw.wanted h3) DZ fA iV Q_ (fun w hB=>?_) ⟨by rw[aj7],O⟩) e1 e2 hob O ?_)
 ·rw[h1];exact ok _ (fun _ _ hx=>h3.ev hx) w hB
 rintro s' g' ⟨rfl,rfl⟩;refine⟨O,hM _ _ _ ?_⟩;rw[fQ (b:=b) (t:=tmps) (ds:=ds) (k:=k) (cs:=cs) (rest:=rest) ho v];exact this
theorem aA.aqL(a:VA){U:Obj->ah}[XF x.P f e](hP:r_ x.P x.main)(ho:ops[i]? =some o)(aY:o.op= .call ⟨.value (.func f),args.toArray,ts⟩)(hv:jv ρ args=some vs)(hw:gY ops ρ o)(hd:iy o.dst x.n=true)(iV:a.can ⟨ob,0⟩)(aj7:a.dep 0=0)(Q_:¬(a= .Kr\/a= .en))(hob:ob.isChan=false)
  (ok:∀w,w.heap[B]? =some ob->Yields x.P f (e vs.toArray) w v (a.LG B w) (a.jv B)) (hl:At B ob F U) (H:aA x ops rest Q (put ρ o.dst v) ds (U (a.obj ob))):aA x ops (i::rest) Q ρ ds F:=
 aA.act a hP ho hw hd (fun c=>by rw[aY];simp) iV aj7 Q_ hob (fun ee he w hB=>by
  obtain⟨r1,r2,r3⟩:=ok w hB;obtain⟨es,r5,r6⟩:=Zj (f:=f) (e:=e) r1 r2 r3;exact⟨es,by rw[zM he aY hv];exact r5,r6 _⟩) hl H
theorem aj8{ρ gW:Env}(h:look gW=look ρ):∀{args:List Operand} {vs:List Value},jv ρ args=some vs->jv gW args=some vs:=by
 have:ev gW=ev ρ:=by rw[<-t_,<-t_,h]
 intro args
 induction args with
 | nil=>exact fun h=>h
 | cons y r ih=>
  intro vs hv;simp only[jv,this]at hv⊢
  cases h1:ev ρ y with
  | none=>rw[h1]at hv;cases hv
  | some u=>
   rw[h1]at hv
   cases h2:jv ρ r with
   | none=>rw[h2]at hv;cases hv
   | some us=>rw[h2]at hv;rw[ih h2];exact hv
theorem Any.aqL{F':ah}(a:VA)[XF x.P f e](hP:r_ x.P x.main)(hr:rH ops listed=[i])(hl:lastT ops i=true)(ho:ops[i]? =some o)(aY:o.op= .call ⟨.value (.func f),args.toArray,ts⟩)(hg:o.guard=none)(hv:jv ρ args=some vs)(hd:iy o.dst x.n=true)(iV:a.can ⟨ob,0⟩)(aj7:a.dep 0=0)(Q_:¬(a= .Kr\/a= .en))(hob:ob.isChan=false)
  (ok:∀w,w.heap[B]? =some ob->Yields x.P f (e vs.toArray) w v (a.LG B w) (a.jv B)) (hp:((B,ob)::F').Perm F) (H:Any x ops L fuel (listed||| 2 ^ i) Q (put ρ o.dst v) ds ((B,a.obj ob)::F')):Any x ops L (fuel+1) listed Q ρ ds F:=
 Any.last (A:=[(B,ob)]) (A':=[(B,a.obj ob)]) (B:=F') hr ho hl hd (fun c=>by rw[aY];simp) hp (fun B' Q gW ds rest LD H=>aA.aqL a hP ho aY (aj8 LD hv) (by unfold gY;rw[hg];trivial) hd iV aj7 Q_ hob ok At.head H) H
end rules
theorem aqM(main:aN)(h:Hp):Pu aV main Nl #[.bool true] h (.int .u32 1):=by
 refine bG.bH func200 [(0,.bool true)] ?_;refine FT ?_;refine W.kG ?_;refine kJ ?_;exact lQ O

section
variable{main:aN}{B off:Nat}{c:Array Value}{ct:TypeId}{h:Hp}{u:Value}
theorem abD(hP:r_ aV main)(hc:c[off]? =some u){Q:fO}(hQ:∀ρ,Q .normal ρ [] [(B,.cells (c.setIfInBounds off (.int .u32 1)) ct (0,0))]){c0:Code}(hb:qX.body=some c0):W ⟨aV,main,iZ,qX.ntmps,none,h⟩ c0 Q [(0,.pointer (some ⟨B,off,none⟩)),(1,.bool true)] [] [(B,.cells c ct (0,0))]:=by
 cases hb
 refine W.jS (n:=6) O ?_;refine ay 0 ?_;refine ay 1 ?_;refine ay 2 ?_;refine ay 3 ?_;refine acp (i:=4) (vs:=[_]) (fun h' _ _=>aqM _ _) ?_;refine Any.aqL (B:=B) (F':=[]) (i:=5) (VA.st off (.int .u32 1)) (v:=.tuple #[]) (vs:=[.pointer (some ⟨B,off,none⟩),.int .u32 1]) hP aB aB (aK rfl) rfl rfl rfl rfl trivial rfl (fun h=>by rcases h with h | h <;>cases h) rfl (fun w hw=>abg (uP hw hc).1 (uP hw hc).2) (.refl _) ?_;refine az ?_;exact hQ _
theorem agY(hP:r_ aV main)(hc:c[off]? =some u):QN aV main iZ #[.pointer (some ⟨B,off,none⟩),.bool true] h [(B,.cells c ct (0,0))] fun F=>F=[(B,.cells (c.setIfInBounds off (.int .u32 1)) ct (0,0))]:=by
 refine QN.gX func186 O (by show 2<=10;decide) [(0,.pointer (some ⟨B,off,none⟩)),(1,.bool true)] ⟨O,O,trivial⟩ ?_;exact abD hP hc (fun ρ=>iQ O) O
theorem abE(hP:r_ aV main)(hc:c[off]? =some (.int .i32 0)):bG aV main AZ #[.pointer (some ⟨B,off,none⟩)] h [(B,.cells c ct (0,0))] fun v F=>∃o',F=[(B,o')]/\v= .tuple #[]/\o'= .cells (c.setIfInBounds off (.int .i32 1)) ct (0,0):=
 bG.YA hP rfl (nJ.mono (aj6 (B:=B) hc) fun v s h=>by obtain⟨rfl,rfl⟩:=h;exact⟨rfl,rfl,rfl⟩)
theorem sW(hP:r_ aV main)(hc:c[off]? =some (.int .i32 1)):QN aV main kK #[.pointer (some ⟨B,off,none⟩)] h [(B,.cells c ct (0,0))] fun F=>∃o',F=[(B,o')]/\o'= .cells (c.setIfInBounds off (.int .i32 0)) ct (0,0):=
 QN.YA hP O fun c' cs E hm Og=>abC (B:=B) (dd:=0) hc c' cs E hm fun s' h=>Og s' (by rw[h];exact⟨O,O⟩)
theorem UQ(hP:r_ aV main){v:Int}(hc:c[off]? =some (.int .u32 v)):bG aV main sQ #[.pointer (some ⟨B,off,none⟩)] h [(B,.cells c ct (0,0))] fun r F=>∃o',F=[(B,o')]/\((v=0->r= .bool false)/\(v=1->r= .bool true))/\o'= .cells c ct (0,0):=
 bG.YA hP rfl (nJ.mono (aj3 (B:=B) hc) fun r s h=>by obtain⟨h1,rfl⟩:=h;exact⟨rfl,h1,rfl⟩)
end
theorem WC.fnA{main:aN}{R K:ah->Prop}[FB P f](hs:L8 A F U)(H:∀h',Ext h h'->je (U []) h'->QN P main f av h' A R)(k:∀A',R A'->WC P main h ds (A'++U []) K):WC P main h ({target:=.fn (.func f) #[],args:=av}::ds) F K:=by
 have:=WC.fn (cap:=av) hs H k;unfold WC at this⊢;simpa using this
theorem qp{main:aN}{fn:Func}{R':Value->ah->Prop}{e:Exit}{R:ah->Prop}[FB P f](hs:L8 A F U)(H:∀h',Ext h h'->je (U []) h'->QN P main f av h' A R)(k:∀A',R A'->leave P main fn h R' e ρ ds (A'++U []))(he:e= .ret\/e= .normal:=by first | exact .inl rfl | exact .inr rfl):leave P main fn h R' e ρ ({target:=.fn (.func f) #[],args:=av}::ds) F:=
 ⟨he,WC.fnA hs H fun A' r=>(k A' r).2⟩

theorem afp{i j:Nat}(h:c[i]? =some u)(hij:j≠i):(c.setIfInBounds j v)[i]? =some u:=by
 rw[kM hij];exact h

def aov(main:aN)(h:Hp)(B o1:Nat)(c1:Array Value)(ct:TypeId)(F0:ah)(fv:Value)(R:Array Value->ah->Prop):Prop:=
 ∀h',Ext h h'->gG aV main fv [] h' ((B,.cells c1 ct (0,0))::F0) fun _ F=>∃c2 E,F=(B,.cells c2 ct (0,0))::E/\c2[o1]? =c1[o1]? /\c2[o1+1]? =c1[o1+1]? /\R c2 E

section
variable{main:aN}{B o1:Nat}{c:Array Value}{ct:TypeId}{h:Hp}{fv:Value}{F0:ah}{R:Array Value->ah->Prop}
theorem agZ(hP:r_ aV main)(hd:c[o1]? =some (.int .u32 0))(hm:c[o1+1]? =some (.int .i32 0))(H:aov main h B o1 (c.setIfInBounds (o1+1) (.int .i32 1)) ct F0 fv R):
  bG aV main KL #[.pointer (some ⟨B,o1,none⟩),fv] h ((B,.cells c ct (0,0))::F0) fun v F=>v= .tuple #[]/\∃c2 E,F=(B,.cells ((c2.setIfInBounds o1 (.int .u32 1)).setIfInBounds (o1+1) (.int .i32 0)) ct (0,0))::E/\R c2 E:=by
 refine bG.bH func144 [(0,.pointer (some ⟨B,o1,none⟩)),(1,fv)] ?_;refine kJ ?_;refine oe O wn O O (gq (A:=[(B,.cells c ct (0,0))]) O O (.head (G:=F0)) (fun h' hE hL=>abE hP hm) (fun v A' hv=>?_));obtain⟨o',rfl,rfl,rfl⟩:=hv;have hd1:(c.setIfInBounds (o1+1) (.int .i32 1))[o1]? =some (.int .u32 0):=afp hd aj;have Q9:(c.setIfInBounds (o1+1) (.int .i32 1))[o1+1]? =some (.int .i32 1):=afo hm;generalize c.setIfInBounds (o1+1) (.int .i32 1)=c1 at H hd1 Q9⊢;refine lg ?_;refine aA.defer (d:={target:=.fn (.func kK) #[],args:= #[.pointer (some ⟨B,o1+1,none⟩)]}) O (aK O) O wn O (fun e he=>?_) ?_
 ·have e3:e (.tmp 10)= .pointer (some ⟨B,o1+1,none⟩):=he _ _ O;have e4:e (.func kK)= .func (.func kK) #[] #[]:=he _ _ O;simp[resolve,Deferred.ofValue,e3,e4,au]
 refine lg ?_;refine oe O wn O O (gq (A:=[(B,.cells c1 ct (0,0))]) O O (.head (G:=F0)) (fun h' hE hL=>UQ hP hd1) (fun v A' hv=>?_));obtain⟨o',rfl,hv,rfl⟩:=hv;obtain rfl:=hv.1 rfl;refine Gh (u:=.bool true) (PI O O) O O wn O O ?_;refine qj ?_;refine W.kG ?_;refine kJ ?_;refine aA.defer (d:={target:=.fn (.func iZ) #[],args:= #[.pointer (some ⟨B,o1,none⟩),.bool true]}) O (aK O) O wn O (fun e he=>?_) ?_
 ·have e3:e (.tmp 18)= .pointer (some ⟨B,o1,none⟩):=he _ _ O;have e4:e (.func iZ)= .func (.func iZ) #[] #[]:=he _ _ O;have e5:e (.const (.bool true))= .bool true:=he _ _ O;simp[resolve,Deferred.ofValue,e3,e4,e5,au]
 refine gI ?_;refine oe O wn O O (AL (A:=(B,.cells c1 ct (0,0))::F0) O O O .all (fun h' hE hL=>H h' hE) (fun v A' hv=>?_));obtain⟨c2,E,rfl,h1,h2,hR⟩:=hv;refine aA.nil ?_;have hd2:=h1.trans hd1;have hm2:=h2.trans Q9;refine qp (A:=[(B,.cells c2 ct (0,0))]) (.head (G:=E)) (fun h' hE hL=>agY hP hd2) (fun A' hA'=>?_);subst hA';refine qp (A:=[(B,.cells (c2.setIfInBounds o1 (.int .u32 1)) ct (0,0))]) (.head (G:=E)) (fun h' hE hL=>sW hP (afp hm2 aj)) (fun A' hA'=>?_);obtain⟨o',rfl,rfl⟩:=hA';exact iQ (vs:=[]) ⟨O,c2,E,O,hR⟩

theorem ag0(hP:r_ aV main)(hd:c[o1]? =some (.int .u32 0))(hm:c[o1+1]? =some (.int .i32 0))(H:aov main h B o1 (c.setIfInBounds (o1+1) (.int .i32 1)) ct F0 fv R):
  bG aV main Hz #[.pointer (some ⟨B,o1,none⟩),fv] h ((B,.cells c ct (0,0))::F0) fun v F=>v= .tuple #[]/\∃c2 E,F=(B,.cells ((c2.setIfInBounds o1 (.int .u32 1)).setIfInBounds (o1+1) (.int .i32 0)) ct (0,0))::E/\R c2 E:=by
 refine bG.bH func95 [(0,.pointer (some ⟨B,o1,none⟩)),(1,fv)] ?_;refine kJ ?_;refine oe O wn O O (gq (A:=[(B,.cells c ct (0,0))]) O O (.head (G:=F0)) (fun h' hE hL=>UQ hP hd) (fun v A' hv=>?_));obtain⟨o',rfl,hv,rfl⟩:=hv;obtain rfl:=hv.1 rfl;refine Gh (u:=.bool true) (PI O O) O O wn O O ?_;refine qj ?_;refine W.kG ?_;refine gI ?_;refine oe O wn O O (gq (A:=(B,.cells c ct (0,0))::F0) O O .all (fun h' hE hL=>agZ hP hd hm (fun h2 NY=>H h2 (hE.trans NY))) (fun v A' hv=>?_));obtain⟨rfl,c2,E,rfl,hR⟩:=hv;refine aA.nil ?_;exact iQ (vs:=[]) ⟨O,c2,E,O,hR⟩

theorem abG(hP:r_ aV main)(hd:c[o1]? =some (.int .u32 1)):
  bG aV main Hz #[.pointer (some ⟨B,o1,none⟩),fv] h [(B,.cells c ct (0,0))] fun v F=>v= .tuple #[]/\F=[(B,.cells c ct (0,0))]:=by
 refine bG.bH func95 [(0,.pointer (some ⟨B,o1,none⟩)),(1,fv)] ?_;refine kJ ?_;refine oe O wn O O (gq (A:=[(B,.cells c ct (0,0))]) O O .all (fun h' hE hL=>UQ hP hd) (fun v A' hv=>?_));obtain⟨o',rfl,hv,rfl⟩:=hv;obtain rfl:=hv.2 rfl;refine Gh (u:=.bool false) (PI O O) O O wn O O ?_;refine qj ?_;refine W.iq ?_;refine W.skip ?_;exact iQ (vs:=[]) ⟨O,O⟩
end
section
variable{x:Cx}{Q:fO}{ρ:Env}{ds:List Deferred}{F:ah}{ops:Array Oper}{i:Nat}{rest:List Nat}{d:Tmp}{ty:TypeId}{pos:String}{bW:Array Edge}{f:FuncId}{args:List Operand}{ts:Array TypeId}{vs:List Value}{γ:GP}{left:Nat}{j:List Nat}{U:Obj->ah}
theorem afq(ho:dS ops.toList i=some ⟨some d,.call ⟨.value (.func f),args.toArray,ts⟩,ty,pos,bW,none⟩)[FB x.P f](hv:jv ρ args=some vs):∀e,Kn1 ρ e->∃es,seen x.P x.fn es= #[]/\∀w,(execOp e ⟨some d,.call ⟨.value (.func f),args.toArray,ts⟩,ty,pos,bW,none⟩).runT x.P w #[]=(.ok (.enter f vs.toArray) w,es):=fun ee he=>⟨#[],O,fun w=>by
  obtain⟨fn,h1,h2,h3⟩:=FB.out (inferInstance:FB x.P f);rw[zM he O hv];simp only[callFunc,program,bind_eq,au,Sem.bind,Sem.runT,h1,h2,h3,eU,if_false]⟩
theorem owa(γ:GP)(hS:∀S,x.main.ok S->∃Fin,S=qQ x.P Fin (some γ) 0)(hb:x.main.b=true)(ho:dS ops.toList i=some ⟨some d,.call ⟨.value (.func f),args.toArray,ts⟩,ty,pos,bW,none⟩)[FB x.P f](hv:jv ρ args=some vs)(hd:Nat.blt d x.n=true)
  (hL:nJ x.P true (gJ γ.toGrp) f vs.toArray (.wg (.add 0) 0) fun v s=>v= .tuple #[]/\s= .wg (.add 1) 0) (hl:At γ.Wg (tu 0 j left) F U) (H:aA x ops rest Q ((d,.tuple #[])::ρ) ds (U (tu 1 j left))):aA x ops (i::rest) Q ρ ds F:=
 aA.add (o:=⟨some d,.call ⟨.value (.func f),args.toArray,ts⟩,ty,pos,bW,none⟩) hS hb (aK ho) wn hd (fun c h=>by cases h) (afq ho hv) hL hl H
theorem owt(γ:GP){V:Obj->Obj->ah}(hS:∀S,x.main.ok S->∃Fin,S=qQ x.P Fin (some γ) 0)(hb:x.main.b=true)(ho:dS ops.toList i=some ⟨some d,.call ⟨.value (.func f),args.toArray,ts⟩,ty,pos,bW,none⟩)[FB x.P f](hv:jv ρ args=some vs)(hd:Nat.blt d x.n=true)
  (hL:nJ x.P true (gJ γ.toGrp) f vs.toArray (.wg (.add 0) 0) fun v s=>v= .tuple #[]/\s= .wg .out 0) (hl:At γ.Wg (tu 0 j left) F U) (hlX:∀o,At γ.X (bn c m) (U o) (V o)) (iK:γ.X≠γ.Wg)
  (H:∀As:List ah,As.length=j.length->(∀(i τ:Nat) (A:ah),As[i]? =some A->j[i]? =some τ->γ.R τ A)->aA x ops rest Q ((d,.tuple #[])::ρ) ds (As.flatten++V wW (.cells c γ.tX γ.fX))):aA x ops (i::rest) Q ρ ds F:=
 aA.wait (o:=⟨some d,.call ⟨.value (.func f),args.toArray,ts⟩,ty,pos,bW,none⟩) hS hb (aK ho) wn hd (fun c h=>by cases h) (afq ho hv) hL hl hlX iK H
theorem owg(γ:GP)(τ:Nat){y:Operand}{fi ca:Array Value}(hS:∀S,x.main.ok S->∃Fin,S=qQ x.P Fin (some γ) 0)(hb:x.main.b=true)(ho:dS ops.toList i=some ⟨none,.go ⟨.value y,args.toArray,ts⟩,ty,pos,bW,none⟩)(hy:ev ρ y=some (.func (.func f) fi ca))(hv:jv ρ args=some vs)(hA:∀b o,(b,o)∈A->o.isChan=false)(hl:At γ.Wg (tu 1 j (left+1)) F U)(hX:(γ.X,bn c m)∈F)(hm:c.size<=m)
  (hc:∀kc M,Sat (dM (Hg x.h) γ.X (bn c γ.q)) A kc M->Wk x.P γ τ (xX x.P {target:=.fn (.func f) ca,args:=fi++vs.toArray}) kc M) (H:aA x ops rest Q ρ ds (U (tu 0 (j++[τ]) left))):aA x ops (i::rest) Q ρ ds (A++F):=
 aA.aqb τ (o:=⟨none,.go ⟨.value y,args.toArray,ts⟩,ty,pos,bW,none⟩) hS hb (aK ho) O wn O hy hv hA hl hX hm hc H
theorem owd(FK:x.ro=none)(ho:dS ops.toList i=some ⟨none,.defer ⟨.value (.func f),args.toArray,ts⟩,ty,pos,bW,none⟩)(hv:jv ρ args=some vs)(H:aA x ops rest Q ρ ({target:=.fn (.func f) #[],args:=vs.toArray}::ds) F):aA x ops (i::rest) Q ρ ds F:=
 aA.defer (o:=⟨none,.defer ⟨.value (.func f),args.toArray,ts⟩,ty,pos,bW,none⟩) FK (aK ho) O wn O (fun e he=>by
  have e1:e (.func f)= .func (.func f) #[] #[]:=he _ _ O;simp only[resolve,e1,List.map_toArray];rw[oK he hv];simp[Deferred.ofValue];rfl) H
end
theorem ae6.of{fn:FuncId}[FB P f](hL:LFD P false (gJ γ.toGrp) f vs.toArray (.dn .live 0) fun s=>s= .dn .gone 0):ae6 P γ fn {target:=.fn (.func f) #[],args:=vs.toArray}:=
 ⟨fun r h=>(by cases h),f,vs.toArray, #[],fun w=>(by
  obtain⟨fn,h1,h2,h3⟩:=FB.out (inferInstance:FB P f);simp only[invoke,callFunc,program,bind_eq,au,Sem.bind,Sem.runT,h1,h2,h3,eU,if_false,Array.append_empty]),O,hL⟩
def W2(x:Cx)(y z:Code)(Q:fO)(ρ:Env)(ds:List Deferred)(F:ah):Prop:=
 ∀(b:Frame) (k:List Item) (cs:List Frame) (Stop:JG x.main) (tmps:Array Value) (hk:Hp) (M:Nat->Prop),b.fn=x.fn->b.roundOf=x.ro->KOK b cs->jf ρ tmps->tmps.size=x.n->Sat x.h F hk M->
  (∀e gW iT F' bC fA M',Q e gW iT F'->jf gW bC->bC.size=x.n->Sat x.h F' fA M'->Fr M F M' F'->After x.P x.main Stop b k cs e bC iT fA M')->
  Gs x.P x.main Stop (G (dR b tmps ds (.code y:: .code z::k)) cs) hk M
section
variable{x:Cx}{Q:fO}{ρ:Env}{ds:List Deferred}{F:ah}{a y z:Code}
theorem W.two(H:W x y (thn (fun gW iT F'=>W x z Q gW iT F') Q) ρ ds F):W2 x y z Q ρ ds F:=by
 intro b k cs Stop tmps hk M h1 h0 h2 h3 h4 h5 hc;refine H b (.code z::k) cs Stop tmps hk M h1 h0 h2 h3 h4 h5 fun e gW iT F' bC fA M' q a1 a2 a3 a4=>?_
 cases e with
 | normal=>exact q b k cs Stop bC fA M' h1 h0 h2 a1 a2 a3 fun e Fa nO qK yE ou oV X7 c1 c2 c3 c4=>hc e Fa nO qK yE ou oV X7 c1 c2 c3 (a4.trans c4)
 | exit id=>exact(hc _ _ _ _ _ _ _ q a1 a2 a3 a4).push rfl (by simp)
 | goto l=>exact(hc _ _ _ _ _ _ _ q a1 a2 a3 a4).push rfl (by simp)
 | ret=>exact(hc _ _ _ _ _ _ _ q a1 a2 a3 a4).push (x:=.code z) rfl (by simp)
 | panic ch=>exact hc _ _ _ _ _ _ _ q a1 a2 a3 a4
 | outgrown=>exact hc _ _ _ _ _ _ _ q a1 a2 a3 a4
theorem W.axQ(H:W x a (thn (fun gW iT F'=>W2 x y z Q gW iT F') Q) ρ ds F):W x (.seq (.seq a y) z) Q ρ ds F:=by
 intro b k cs Stop tmps hk M h1 h0 h2 h3 h4 h5 hc;refine .idle O (fun _=>X0) (.idle O (fun _=>X0) (H b (.code y:: .code z::k) cs Stop tmps hk M h1 h0 h2 h3 h4 h5 fun e gW iT F' bC fA M' q a1 a2 a3 a4=>?_))
 cases e with
 | normal=>exact q b k cs Stop bC fA M' h1 h0 h2 a1 a2 a3 fun e Fa nO qK yE ou oV X7 c1 c2 c3 c4=>hc e Fa nO qK yE ou oV X7 c1 c2 c3 (a4.trans c4)
 | exit id=>exact((hc _ _ _ _ _ _ _ q a1 a2 a3 a4).push (x:=.code z) rfl (by simp)).push rfl (by simp)
 | goto l=>exact((hc _ _ _ _ _ _ _ q a1 a2 a3 a4).push (x:=.code z) rfl (by simp)).push rfl (by simp)
 | ret=>exact((hc _ _ _ _ _ _ _ q a1 a2 a3 a4).push (x:=.code z) rfl (by simp)).push (x:=.code y) rfl (by simp)
 | panic ch=>exact hc _ _ _ _ _ _ _ q a1 a2 a3 a4
 | outgrown=>exact hc _ _ _ _ _ _ _ q a1 a2 a3 a4
theorem W2.group(γ:GP)(N:Nat)(LU:Array Value)(hS:∀S,x.main.ok S->∃Fin,S=Mn x.P Fin)(hb:x.main.b=true)(hN:N<=63)
  (H:x.h γ.Wg=none->x.h γ.X=none->γ.X≠γ.Wg->W2 {x with main:=alE x.P γ} y z (fun e gW iT F'=>(e= .normal\/e= .ret)/\∃G,F'=(γ.Wg,wW)::G/\Q e gW iT G) ρ ds ((γ.Wg,tu 0 [] N)::(γ.X,bn LU LU.size)::F)):W2 x y z Q ρ ds ((γ.Wg,SG γ.tW ⟨0,0,0⟩)::(γ.X,.cells LU γ.tX γ.fX)::F):=by
 intro b k cs Stop tmps hk M h1 h0 h2 h3 h4 h5 hc;obtain⟨Fin,eS⟩:=hS _ Stop.2.1;have uX:=h5.nodup;simp only[dQ,List.nodup_cons,bU,not_or]at uX;obtain⟨e1,e2,S1,f1⟩:=h5.FC (o':=tu 0 [] N) At.head;obtain⟨e3,e4,S2,f2⟩:=S1.FC (o':=bn LU LU.size) (At.tail At.head);have iK:γ.X≠γ.Wg:=fun e=>uX.1.1 e.symm;rw[bJ _ _ iK]at e3;have eG:Gs x.P x.main Stop=J4 x.P true (Mn x.P Fin):=by funext g k M;unfold Gs;rw[hb,eS]
 have hE:Gy (Mn x.P Fin):=eS▸Stop.2.2;have:=H (h5.own _ _ (bT ..)).2.2 (h5.own _ _ (dH _ (bT ..))).2.2 iK b k cs ⟨qQ x.P (Mn x.P Fin) (some γ) 0,⟨_,O⟩,qQ.aaH hE⟩ tmps _ _ h1 h0 h2 h3 h4 S2 fun e gW iT F' bC fA M' q a1 a2 a3 a4=>?_
 ·rw[eG];exact .stop (.opens γ N LU hN e1 e2 iK e3 e4 (qQ.ng this).join)
 obtain⟨he,G,rfl,q⟩:=q;have hw:=a3.own _ _ (bT ..);have hh:=hc e gW iT G bC _ _ q a1 a2 a3.drop ((f1.trans f2).trans a4).drop;rcases he with rfl | rfl
 ·have hh:Gs x.P x.main Stop _ _ _:=hh;rw[eG]at hh;exact .stop (.exit hw.1 (.fin (Mn.ng hh)))
 have hh:∀k',Stp x.P x.main.b (Gs x.P x.main Stop) _ _ _:=hh;rw[eG,hb]at hh;exact fun k'=>(hh k').inside hw.1 hw.2.1
end
def ag1(n:Nat):List Value:=[U8 n]
instance:Rw ag1 1:=⟨fun _=>rfl,fun _=>rfl⟩
def Iu{α:Type}(p:α->Bool):List α->Nat->Int
 | [],_=> -1
 | x::l,k=>if p x then k else Iu p l (k+1)
theorem abH{α:Type}{p:α->Bool}:∀{l:List α} {k:Nat},decide (0<=Iu p l k)=l.any p
 | [],k=>rfl
 | x::l,k=>by
  rw[Iu,List.any_cons]
  cases p x with
  | true=>simp
  | false=>simpa using abH
theorem Zv(main:aN)(h:Hp)(l:List Nat)(v fv:Value)(p:Nat->Bool)(hf:Sl h ag1 v l)(hl:l.length<=1000)(H:∀h',Ext h h'->∀n,PuV aV main fv [U8 n] h' (.bool (p n))):Pu aV main Ah #[v,fv] h (I (Iu p l 0)):=by
 obtain⟨a,cap,rfl⟩:=hf.aU;refine bG.bH func192 [(0,.slice a l.length cap),(1,fv)] ?_;refine oz ?_;refine W.loop (σ:=Nat) (fun k=>k<=l.length/\Iu p l 0=Iu p (l.drop k) k) (fun k=>[(8,I k),(7,I l.length),(0,.slice a l.length cap),(1,fv)]) (fun _=>[]) (fun k=>l.length-k) 0 ⟨Nat.zero_le _,O⟩ iw .refl ?_;rintro k ⟨hk,hd⟩;refine kJ ?_;refine W.aJ O (fun c9=>?_) (fun c9=>?_)
 ·obtain⟨x,hp,yI⟩:=has (show k<l.length by omega);rw[yI,Iu]at hd;obtain⟨b,off,c,E,fz,rfl,hb,hx,hy,hz⟩:=hf.at hp;have Aq:c[off+k*1]? =some (U8 x):=hz 0 dF;clear hx hz;refine Qv ?_;refine cv (fun h' hE hL=>H h' hE x) ?_;refine qj ?_;refine W.cond O (fun PV=>?_) (fun PV=>?_)
  ·refine iC ?_;rw[if_pos PV]at hd;refine lQ ?_;show I _=I _;rw[hd]
  refine jk ?_;rw[if_neg (by rw[PV];exact Bool.false_ne_true)]at hd;exact⟨O,k+1,⟨aj,hd⟩,aj,iw,qE⟩
 obtain rfl:k=l.length:=by omega
 refine gZ ?_;refine lQ ?_;show I _=I _;first | (rw[hd];done) | (rw[hd];simp[Iu])
theorem QK(main:aN)(h:Hp)(l:List Nat)(v fv:Value)(p:Nat->Bool)(hf:Sl h ag1 v l)(hl:l.length<=1000)(H:∀h',Ext h h'->∀n,PuV aV main fv [U8 n] h' (.bool (p n))):Pu aV main xY #[v,fv] h (.bool (l.any p)):=by
 obtain⟨a,cap,rfl⟩:=hf.aU;refine bG.bH func150 [(0,.slice a l.length cap),(1,fv)] ?_;refine kR ?_;refine cp (fun h' hE hL=>Zv _ h' l _ fv p (hf.ext hE) hl (fun h2 e=>H h2 (hE.trans e))) ?_;refine lF ?_;refine lQ ?_;show Value.bool _=Value.bool _;rw[<-abH (p:=p) (l:=l) (k:=0)]
theorem adQ(main:aN)(h:Hp)(b12 ps:Nat)(E:TypeId)(z:Nat×Nat)(hb:h b12=some (.cells #[U8 ps] E z))(n:Nat):PuV aV main (.func (.func A8) #[] #[aG b12]) [U8 n] h (.bool (!amz n ps)):=by
 refine gG.o9 (f:=A8) (fi:=[]) (ca:=[aG b12]) ?_;refine bG.bH func151 [(0,U8 n),(1,aG b12)] ?_;refine kR ?_;refine cp (fun h' hE hL=>ajH _ h' n ps) ?_;refine lF ?_;exact lQ O
theorem amU{l:List Nat}{p:Nat->Bool}:(!l.any fun n=> !p n)=l.all p:=by
 induction l with
 | nil=>rfl
 | cons a l ih=>rw[List.any_cons,List.all_cons,<-ih];cases p a <;>simp
theorem ag2(main:aN)(h:Hp)(b4 b12 ps m:Nat)(al:Option Addr)(adR:Nat)(E E4:TypeId)(z z4:Nat×Nat)(hb:h b12=some (.cells #[U8 ps] E z))(hb4:h b4=some (.cells #[.slice al m adR] E4 z4))(hm:m<=3)(t:Tm):PuV aV main (.func (.func Fp) #[] #[aG b4,aG b12]) [tmV t] h (.bool (isT ps m t)):=by
 refine gG.o9 (f:=Fp) (fi:=[]) (ca:=[aG b4,aG b12]) ?_;refine bG.bH func149 [(0,tmV t),(1,aG b4),(2,aG b12)] ?_;have hlen:(t.ns.take m).length=m:=by simp[Tm.ns];omega
 have auk:Part (tmC t) 0 (flat ag1 (t.ns.take m)):=by
  have:Part (tmC t) 0 ([]++(flat ag1 (t.ns.take m)++flat ag1 (t.ns.drop m))):=by
   rw[List.nil_append,<-wR,List.take_append_drop];exact Part.all _
  exact this.sub
 refine d_ ?_;refine aA.box (fun nP=>?_);refine lg ?_;refine b_ (Et (m:=m) O O O aj) O ?_;refine zT ?_;refine cp (fun h' hE hL=>QK _ h' (t.ns.take m) _ _ (fun n=> !amz n ps) (Sl.mk (hL nP _ (.head _)) hlen.symm auk) aj (fun h2 e n=>adQ _ h2 b12 ps E z ((hE.trans e).1 _ _ hb) n)) ?_;refine lF ?_;refine lQ ?_;show Value.bool _=Value.bool _;rw[amU];rfl

def afr(w:Option (List Int))(v:Value)(F:ah):Prop:=
 match w with
 | none=>∃s e,e≠0/\v= .tuple #[s,I e]/\eH F
 | some l=>∃s S,v= .tuple #[s,I 0]/\Rn S s l/\Sb S F
def abI(ks:List Int)(k:Nat):Tm:=(List.range k).foldl (fun t i=>t.up i (ks.getD i 0).toNat) ⟨0,0,0⟩
theorem adS:abI ks (k+1)=(abI ks k).up k (ks.getD k 0).toNat:=by simp[abI,List.range_succ]
theorem ag3(h:ks.length<=3):abI ks ks.length=adK ks:=by
 match ks,h with
 | [],_=>rfl
 | [a],_=>rfl
 | [a,b],_=>rfl
 | [a,b,c],_=>rfl
 | a::b::c::d::r,h=>simp at h
theorem amV(h:∀n∈ks,0<=n/\n<=63):(adK ks).lt:=by
 have key:∀i,(ks.getD i 0).toNat<64:=fun i=>by
  rw[List.getD_eq_getElem?_getD]
  cases e:ks[i]? with
  | none=>decide
  | some n=>
   have:=h n (dL e);show n.toNat<64;omega
 exact⟨key 0,key 1,key 2⟩
theorem amW(main:aN)(h:Hp)(gs:List Ag)(ks:List Int)(ps:Int)(va vl:Value)(hf:Sl h Ag.row va gs)(hk:Sl h bY vl ks)(zU:JC gs=0)(h1:1<=ks.length)(h3:ks.length<=3)(Tf:∀n∈ks,0<=n/\n<=63)(hps:0<=ps/\ps<=63):bG aV main wG #[va,vl,I ps] h [] (afr (nH gs ks ps)):=by
 obtain⟨a,cap,rfl⟩:=hf.aU;obtain⟨al,adR,rfl⟩:=hk.aU;have uU:=Iq.xE zU;refine bG.bH func97 [(0,.slice a gs.length cap),(1,.slice al ks.length adR),(2,I ps)] ?_;refine d_ ?_;refine aA.box (fun mW=>?_);refine zT ?_;refine aA.new (fun yc=>?_);refine gI ?_;refine owd (vs:=[aG yc]) O O O ?_;refine lF ?_;refine c0 (fun h' hE hL=>agH _ h' gs _ (hf.ext hE) zU) (fun v A' hv=>?_);obtain⟨vs,S,rfl,hS,bF⟩:=hv;obtain⟨as0,amD,rfl⟩:=hS.aU;refine aA.sb (F':=(yc,.cells #[I 0] aeR (0,0))::(mW,.cells #[.slice al ks.length adR] tV (0,0))::S) (.trans (.aT (show List.Perm ([_,_]++S) _ from dK)) (bF.app .refl)) ?_;refine aA.new (fun zC=>?_);refine FT ?_;refine W.aJ O (fun c18=>?_) (fun c18=>?_)
 ·exact absurd c18 aj
 refine FT ?_;refine W.aJ O (fun Oh=>?_) (fun Oh=>?_)
 ·exact absurd Oh aj
 refine lF ?_;refine aA.new (fun Oi=>?_);refine FT ?_
 refine W.loop (σ:=Nat) (fun k=>k<=ks.length) (fun k=>[(24,I k),(23,I ks.length),(22,.slice al ks.length adR),(2,I ps),(4,aG mW),(7,aG yc),(8,aG zC),(9,aG Oi)])
  (fun k=>(Oi,.cells (tmC (abI ks k)) kS (0,0))::(zC,.cells #[.slice as0 gs.length amD,NU gs.length] jV (0,0))::(yc,.cells #[I 0] aeR (0,0))::(mW,.cells #[.slice al ks.length adR] tV (0,0))::S) (fun k=>ks.length-k) 0 (Nat.zero_le _) iw .refl ?_
 rintro k zI;refine kJ ?_;refine W.aJ O (fun JW=>?_) (fun JW=>?_)
 ·have hk3:k<3:=by omega
  obtain⟨p,hp,yI⟩:=has (show k<ks.length by omega);obtain⟨b,off,c,E,fz,rfl,hb,hx,hy,hz⟩:=hk.at hp;have Aq:c[off+k*1]? =some (I p):=hz 0 dF;clear hx hz;refine Qu ?_;refine cp (fun h' hE hL=>aff _ h' p (Tf p (dL hp))) ?_
  first | refine b_ (rM rfl rfl rfl) rfl ?_ | refine b_ (kU rfl rfl rfl) rfl ?_
  refine oe O wn O O (eS O O O ?_ (hc:=by show 0+k*1<3;omega));refine aA.nil<|iE<|fH<|W.region rfl ?_;refine gI ?_;have e:(ks.getD k 0)=p:=by rw[List.getD_eq_getElem?_getD,hp];rfl
  exact⟨O,k+1,aj,aj,iw,by rw[adS,e,<-ajZ hk3 (show 0+k*1=k by omega)];exact .refl⟩
 obtain rfl:k=ks.length:=by omega
 rw[ag3 h3];refine kR ?_;refine cp (fun h' hE hL=>aff _ h' ps hps) ?_;refine aA.new (fun amX=>?_);refine FT ?_;refine c0 (fun h' hE hL=>amR _ h' gs _ ks.length 5 (isT ps.toNat ks.length) _ (adK ks) 15626 (hS.sl fun b o hb=>hL b o (.tail _ (.tail _ (.tail _ (.tail _ (.tail _ hb)))))) uU h3 (amV Tf) (Nat.le_refl _) dF dF (fun h2 NY t=>ag2 _ h2 mW amX ps.toNat ks.length al adR _ _ _ _ (NY.1 _ _ (hL amX _ (.head _))) (NY.1 _ _ (hL mW _ (.tail _ (.tail _ (.tail _ (.tail _ (.head _))))))) h3 t)) (fun v A' hv=>?_)
 have hv2:∃s mo,v= .tuple #[s,.bool mo]/\(mo=false->nH gs ks ps=none/\eH A')/\(mo=true->∃w S1,nH gs ks ps=some w/\Rn S1 s w/\Sb S1 A'):=by
  unfold nH aoh;revert hv
  cases Ld (stT gs ks.length) gs.length 5 (isT ps.toNat ks.length) 15626 [adK ks] [([],adK ks)]with
  | none=>rintro⟨s,rfl,hs⟩;exact⟨s,false,rfl,fun _=>⟨rfl,hs⟩,(fun h=>by cases h)⟩
  | some w=>rintro⟨s,S1,rfl,hr,hs⟩;exact⟨s,true,rfl,(fun h=>by cases h),fun _=>⟨zs w,S1,rfl,hr,hs⟩⟩
 obtain⟨s,mo,rfl,xJ,Lh⟩:=hv2;clear hv;refine oz ?_;refine W.cond O (fun c46=>?_) (fun c46=>?_)
 ·obtain⟨hb,yu⟩:=xJ (by simpa using c46);refine jk ?_;rw[hb];refine qp (A:=[]) (.head (A:=[])) (fun h' hE hL=>Xy _ h' yc) (fun A2 hA2=>?_);exact AY (vs:=[.slice none 0 0,I 11]) (hv:=adf (rSc nM (hl:=bZ _ (bZ _ (bZ _ (.tail _ (.tail _ (.tail _ (.head _))))))))) ⟨_,11,dF,O,hA2.app (yu.app (.cons O (.cons O (.cons O (.cons O (.cons O hS.shut))))))⟩
 obtain⟨w,S1,hb,hR,hs1⟩:=Lh (by simpa using c46);refine FT ?_;rw[hb];refine qp (A:=[]) (.head (A:=[])) (fun h' hE hL=>Xy _ h' yc) (fun A2 hA2=>?_);obtain⟨as1,at1,rfl⟩:=hR.sl;exact AY (vs:=[.slice as1 w.length at1,I 0]) (hv:=adf (rSc nM (hl:=bZ _ (bZ _ (bZ _ (.tail _ (.tail _ (.tail _ (.head _))))))))) ⟨_,S1,O,hR,.left (show Sb S1 (A'++_)from .right hs1 (.cons O (.cons O (.cons O (.cons O (.cons O hS.shut)))))) hA2⟩
def RdX(h:Hp)(X off:Nat)(v:Value):Prop:=(∃c po,h X=some (bn c po)/\off≠po/\c[off]? =some v)\/∃c E fz,h X=some (.cells c E fz)/\c[off]? =some v
theorem RdX.ext{h':Hp}{X off:Nat}(H:RdX h X off v)(hE:Ext h h'):RdX h' X off v:=by
 rcases H with⟨c,po,h1,h2⟩ | ⟨c,E,fz,h1,h2⟩
 ·exact .inl ⟨c,po,hE.1 _ _ h1,h2⟩
 exact .inr ⟨c,E,fz,hE.1 _ _ h1,h2⟩
theorem afs{x:Cx}{S:ah->Prop}{o:Oper}{t:TypeId}{a:Operand}{off:Nat}(ho:o.op= .load t a)[SC x.P t](ha:ev ρ a=some (.pointer (some ⟨b,off,none⟩)))(H:RdX x.h b off v):Yv x S ρ o v:=by
 rcases H with⟨c,po,h1,h2,h3⟩ | ⟨c,E,fz,h1,h2⟩
 ·exact aem ho ha (.inl h1) h2 h3
 exact acS ho ha (.inl h1) h2

def XG(w:Option (List Int))(d:Int)(v:Value)(F:ah):Prop:=
 match w with
 | none=>v= .iface zx (.agg #[])/\F=[]
 | some l=>∃s,v= .iface oG (.agg #[s,I (d+l.length)])/\Rn F s l

theorem adU(main:aN)(h:Hp)(X B bx bp:Nat)(c:Array Value)(ag ks:Value)(pass d:Int)(w:Option (List Int))(hA:RdX h X 0 ag)(hPs:RdX h X 1 (I pass))(hk:c[0]? =some ks)(hd:c[1]? =some (I d))(h8:c.size=9)
  (yI:∀l,w=some l->-9223372036854775808<=d+(l.length:Int)/\d+(l.length:Int)<9223372036854775808) (HB:∀h',Ext h h'->bG aV main wG #[ag,ks,I pass] h' [] (afr w)):
  bG aV main FX #[.pointer (some ⟨bx,0,none⟩),.pointer (some ⟨bp,0,none⟩)] h [(B,.cells c dX (0,0)),(bx,.cells #[.pointer (some ⟨X,0,none⟩)] jB (0,0)),(bp,.cells #[.pointer (some ⟨B,0,none⟩)] dA (0,0))] fun _ F=>∃c2 E,F=(B,.cells c2 dX (0,0))::E/\c2[5]? =c[5]? /\c2[6]? =c[6]? /\∃v,c2=c.setIfInBounds 8 v/\∃E0,E=(bx,.cells #[.pointer (some ⟨X,0,none⟩)] jB (0,0))::(bp,.cells #[.pointer (some ⟨B,0,none⟩)] dA (0,0))::E0/\XG w d v E0:=by
 refine bG.bH func96 [(0,.pointer (some ⟨bx,0,none⟩)),(1,.pointer (some ⟨bp,0,none⟩))] ?_;refine W.seq ?_;refine W.kQ [(B,.cells c dX (0,0)),(bx,.cells #[.pointer (some ⟨X,0,none⟩)] jB (0,0)),(bp,.cells #[.pointer (some ⟨B,0,none⟩)] dA (0,0))] (n:=21) O ?_;refine ay 0 ?_;refine ay 1 ?_;refine ay 2 ?_;refine ay 3 ?_;refine fJ 4 (afs O O hA) O ?_;refine ay 5 ?_;refine ay 6 ?_;refine ay 7 ?_;refine ay 8 ?_;refine fJ 9 (CG O O (hc:=hk)) O ?_;refine ay 10 ?_;refine ay 11 ?_;refine ay 12 ?_;refine ay 13 ?_;refine fJ 14 (afs O O hPs) O ?_;refine ae (i:=15) O an O O (oL O O (fun h' hE hL=>HB h' hE) (fun v A' hv=>?_));refine⟨.inr (aC.app (fun _ h=>h)),?_⟩
 obtain⟨s,e,S0,rfl,hw,bF⟩:∃s e S0,v= .tuple #[s,I e]/\(match w with | none=>e≠0/\S0=[] | some l=>e=0/\Rn S0 s l)/\Sb S0 A':=by
  cases w with
  | none=>obtain⟨s,e,h1,h2,h3⟩:=hv;exact⟨s,e,[],h2,⟨h1,rfl⟩,.nil h3⟩
  | some l=>obtain⟨s,S0,h2,h3,h4⟩:=hv;exact⟨s,0,S0,h2,⟨rfl,h3⟩,h4⟩
 refine Any.sb (F':=(B,.cells c dX (0,0))::(bx,.cells #[.pointer (some ⟨X,0,none⟩)] jB (0,0))::(bp,.cells #[.pointer (some ⟨B,0,none⟩)] dA (0,0))::S0) (.trans (.aT (show List.Perm ([_,_,_]++S0) (S0++[_,_,_])from dK)) (bF.app .refl)) ?_;refine ay 16 ?_;refine ay 17 ?_;refine ay 18 ?_;refine ay 19 ?_;refine ay 20 ?_;refine az ?_;refine jk ?_;refine W.aJ O (fun c24=>?_) (fun c24=>?_)
 ·obtain rfl:w=none:=by cases w with | none=>rfl | some l=>exact absurd hw.1 c24
  refine iC ?_;refine iQ (vs:=[]) ⟨_,_,O,?_,?_,_,O,_,O,O,hw.2⟩
  ·exact kM dF
  exact kM dF
 obtain⟨l,rfl⟩:∃l,w=some l:=by cases w with | none=>exact absurd hw.1 c24 | some l=>exact⟨l,rfl⟩
 obtain⟨-,hO⟩:=hw;obtain⟨sa,sc,rfl⟩:=hO.sl;have Gn:=yI l O;refine d_ ?_;refine W.jS (n:=15) O ?_;refine ay 0 ?_;refine ay 1 ?_;refine ay 2 ?_;refine ay 3 ?_;refine ay 4 ?_;refine ay 5 ?_;refine fJ 6 (CG O O (hc:=hd)) O ?_;refine ay 7 ?_;refine ay 8 ?_;refine ay 9 ?_;refine ay 10 ?_;refine fJ 11 (aiI O O) O ?_;refine ay 12 ?_;refine ay 13 ?_;refine ae (i:=14) O an O O (eS O O O ?_);refine⟨.inl aB,?_⟩;refine az ?_;refine iQ (vs:=[]) ⟨_,_,O,?_,?_,_,O,_,O,_,O,hO⟩
 ·exact kM dF
 exact kM dF
def Ap(ks:Value)(d n2 n3 n4 dn mu:Int)(st:Value):Array Value:= #[ks,I d,I n2,I n3,I n4,.int .u32 dn,.int .i32 mu,.int .u32 0,st]

theorem adV(main:aN)(hP:r_ aV main)(h:Hp)(X B:Nat)(ag ks st:Value)(pass d n2 n3 n4:Int)(w:Option (List Int))(hA:RdX h X 0 ag)(hPs:RdX h X 1 (I pass))
  (yI:∀l,w=some l->-9223372036854775808<=d+(l.length:Int)/\d+(l.length:Int)<9223372036854775808) (HB:∀h',Ext h h'->bG aV main wG #[ag,ks,I pass] h' [] (afr w)):
  bG aV main qG #[.pointer (some ⟨X,0,none⟩),.pointer (some ⟨B,0,none⟩)] h [(B,.cells (Ap ks d n2 n3 n4 0 0 st) dX (0,0))] fun v F=>∃E,XG w d v E/\Sb ((B,.cells (Ap ks d n2 n3 n4 1 0 v) dX (0,0))::E) F:=by
 refine bG.bH func67 [(0,.pointer (some ⟨X,0,none⟩)),(1,.pointer (some ⟨B,0,none⟩))] ?_;refine d_ ?_;refine aA.box (fun oJ=>?_);refine aA.box (fun nP=>?_);refine kR ?_;refine aA.sb (F':=[(B,.cells (Ap ks d n2 n3 n4 0 0 st) dX (0,0)),(oJ,.cells #[.pointer (some ⟨X,0,none⟩)] jB (0,0)),(nP,.cells #[.pointer (some ⟨B,0,none⟩)] dA (0,0))]) (Sb.aT (List.reverse_perm _).symm) ?_;refine oe O wn O O (gq (A:=[(B,.cells (Ap ks d n2 n3 n4 0 0 st) dX (0,0)),(oJ,.cells #[.pointer (some ⟨X,0,none⟩)] jB (0,0)),(nP,.cells #[.pointer (some ⟨B,0,none⟩)] dA (0,0))]) O O .all (fun h' hE hL=>ag0 (o1:=5) (c:=Ap ks d n2 n3 n4 0 0 st) (R:=fun c2 E=>∃v E0,c2=Ap ks d n2 n3 n4 0 1 v/\E=(oJ,.cells #[.pointer (some ⟨X,0,none⟩)] jB (0,0))::(nP,.cells #[.pointer (some ⟨B,0,none⟩)] dA (0,0))::E0/\XG w d v E0) hP O O (fun h2 NY=>?_)) (fun v A' hv=>?_))
 ·refine gG.mono (gG.o9 (fi:=[]) (args:=[]) (ca:=[_,_]) (adU main h2 X B oJ nP (Ap ks d n2 n3 n4 0 1 st) ag ks pass d w ((hA.ext hE).ext NY) ((hPs.ext hE).ext NY) O O O yI (fun h3 hE3=>HB h3 ((hE.trans NY).trans hE3)))) (fun v F hv=>?_);obtain⟨c2,E,rfl,h5,h6,v',rfl,E0,rfl,hs⟩:=hv;exact⟨_,_,O,h5,h6,v',E0,O,O,hs⟩
 obtain⟨rfl,c2,E,rfl,v,E0,rfl,rfl,hs⟩:=hv;refine gZ ?_;exact iQ (vs:=[v]) ⟨E0,hs,.cons (.skip O (.skip O .refl))⟩

theorem adW(main:aN)(hP:r_ aV main)(h:Hp)(X B:Nat)(ks v:Value)(d n2 n3 n4:Int):
  bG aV main qG #[.pointer (some ⟨X,0,none⟩),.pointer (some ⟨B,0,none⟩)] h [(B,.cells (Ap ks d n2 n3 n4 1 0 v) dX (0,0))] fun u F=>u=v/\Sb [(B,.cells (Ap ks d n2 n3 n4 1 0 v) dX (0,0))] F:=by
 refine bG.bH func67 [(0,.pointer (some ⟨X,0,none⟩)),(1,.pointer (some ⟨B,0,none⟩))] ?_;refine d_ ?_;refine aA.box (fun oJ=>?_);refine aA.box (fun nP=>?_);refine kR ?_;refine aA.sb (F':=[(B,.cells (Ap ks d n2 n3 n4 1 0 v) dX (0,0)),(oJ,.cells #[.pointer (some ⟨X,0,none⟩)] jB (0,0)),(nP,.cells #[.pointer (some ⟨B,0,none⟩)] dA (0,0))]) (Sb.aT (List.reverse_perm _).symm) ?_;refine oe O wn O O (gq (A:=[(B,.cells (Ap ks d n2 n3 n4 1 0 v) dX (0,0))]) O O (.head (G:=[_,_])) (fun h' hE hL=>abG (o1:=5) (c:=Ap ks d n2 n3 n4 1 0 v) hP O) (fun v A' hv=>?_));obtain⟨rfl,rfl⟩:=hv;refine gZ ?_;exact iQ (vs:=[v]) ⟨O,.cons (.skip O (.skip O .refl))⟩
end Go.jc
