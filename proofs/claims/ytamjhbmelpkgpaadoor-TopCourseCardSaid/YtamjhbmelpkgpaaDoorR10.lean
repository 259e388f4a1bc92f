/- The outermost function where no goroutine is started: from a law's body to the run of the machine. Conditions: none; over any program. (And 2 texts more.) -/
import Derived.Test.YtamjhbmelpkgpaaDoorR09
import Derived.Handed
import Derived.Test.YtamjhbmelpkgpaaDoorR07
import Derived.Test.YtamjhbmelpkgpaaDoorCards
import Derived.Test.YtamjhbmelpkgpaaDoorTie
import Derived.SevenTiedAt
set_option linter.unusedVariables false
set_option linter.unusedSimpArgs false
set_option linter.unusedSectionVars false

/- The outermost function where no goroutine is started: from a law's body to the run of the machine. Conditions: none; over any program. -/
namespace Go.aS
open Go.Conc (solo solo_eq_crowd stepT_solo runT_crowd_go)
def az6(P:Program)(S:Goroutine→Hp→(Nat→Prop)→Prop):Side:=⟨true,fun X=>X=S⟩

section
variable{P:Program}{Post:Value→World→Prop}
theorem CJ.top{f:FuncId}{fn:Func}{body:Code}(hf:P.funcs[f]? =some fn)(hb:fn.body=some body)(hi:P.inits.idxOf? f=none){args:Array Value}(ha:args.size≤fn.ntmps)(ρ:Env)(hρ:G9 ρ args){h k:Hp}{M:Nat→Prop}(S:Sat h [] k M)(hno:∀b o,h b=some o→o.isChan=false)
  {R:Value→Prop} (hpost:∀v w,R v→(∀b o,h b=some o→w.heap[b]? =some o)→Post v w)
  (H:W ⟨P,az6 P (tZ P Post),f,fn.ntmps,none,h⟩ body (fun e ρ ds F=>ds=[]∧Shut F∧leave P (az6 P (tZ P Post)) fn h (fun v _=>R v) e ρ [] F) ρ [] []):CJ P true (tZ P Post) (G (Frame.enter P f args .normal) []) k M:=by
 have e:Frame.enter P f args .normal=bW {(default:Frame)with fn:=f,kind:=.normal} (args++Array.replicate (fn.ntmps-args.size) undef) [] [.code body]:=by
  simp[Frame.enter,bW,hf,hb];rfl
 rw[e]
 refine H _ [] [] ⟨tZ P Post,rfl,tZ.x9⟩ _ k M rfl rfl (by simp) hρ.ok (by simp;omega) S fun ex ρ' ds' F' aZ hk' M' q a1 a2 a3 a4=>?_
 obtain⟨rfl,hsh,hex,hu⟩:=q
 have hu':tr P h (results fn aZ) F' (fun v _=>R v):=hu aZ a1
 have go:∀todo,CJ P true (tZ P Post) (G (iC {(default:Frame)with fn:=f,kind:=.normal} aZ [] todo) []) hk' M':=fun todo=>by
  refine .stop ⟨rfl,fun c o hm hk=>?_,fun w hw hM=>?_⟩
  ·cases ho:opn o with
   | false=>rfl
   | true=>
    rcases a3.all c o hm hk ho with h1 | h1
    ·rw[hsh _ h1]at ho;cases ho
    ·rw[Fh (hno c o h1)]at ho;cases ho
  ·obtain⟨v,Lp,w',es,r1,r2,r3,r4,r5⟩:=jR _ #[] hu' a3 hw hM
   rw[Array.empty_append]at r1
   refine⟨v,w',_,abD hf hi r1 rfl,r2.mem fun _=>mem_seen,hpost v w' r5 fun b o hb=>?_⟩
   exact(qZ hw r2).get (r3.sub b o hb) (hno b o hb)
 rcases hex with rfl | rfl
 ·exact fun k'=>.idle rfl (fun _=>Fj (main:=az6 P (tZ P Post)) rfl) (go _)
 ·exact .idle rfl (fun _=>Fp (main:=az6 P (tZ P Post)) rfl) (go _)

theorem CJ.running{S:Goroutine→Hp→(Nat→Prop)→Prop}{g:Goroutine}{k:Hp}{M:Nat→Prop}(H:CJ P true S g k M)(hS:∀g k M,S g k M→g.status= .running):g.status= .running:=by
 cases H with
 | stop h=>exact hS _ _ _ h
 | step hs _ _=>exact hs

theorem step_solo_go{g g':Goroutine}{w w':World}{es:Array Event}(hs:g.status= .running)(h:stepG P true g w= .go g' w' es):Go.step P (solo g w)= .next (solo g' w'):=by
 have e:stepT P (solo g w)=(.next (solo g' w'),MemOp.ofEvents 0 g.frame.fn g.frame.place es):=by
  rw[stepT_solo hs,solo_eq_crowd]
  have:=runT_crowd_go (P:=P) (gs:= #[g]) (w:=w) (sl:=none) (i:=0) (g:=g) (g':=g') (w':=w') (es:=es) rfl h
  rw[this]
  simp[solo_eq_crowd]
 show(stepT P (solo g w)).1=_
 rw[e]
theorem azZ{g:Goroutine}{w w':World}{o:Outcome}{es:Array Event}(hs:g.status= .running)(h:stepG P true g w= .ended o w' es):Go.step P (solo g w)= .ended o w':=by
 have e:stepT P (solo g w)=(.ended o w',MemOp.ofEvents 0 g.frame.fn g.frame.place es):=by
  rw[stepT_solo hs,solo_eq_crowd]
  exact runT_crowd_ended (gs:= #[g]) (i:=0) rfl h
 show(stepT P (solo g w)).1=_
 rw[e]

theorem CJ.ends{W0:World}{g:Goroutine}{k:Hp}{M:Nat→Prop}(H:CJ P true (tZ P Post) g k M):∀w,yF k w→Dom k M→Kept W0 w→w.os=W0.os→(∀b,M b→W0.heap.size≤b)→
  ∃n g' wl v w',runN P n (solo g w)= .next (solo g' wl)∧Go.step P (solo g' wl)= .ended (.done v) w'∧Post v w'∧Kept W0 w'∧w'.os=W0.os:=by
 induction H with
 | stop h=>
  rename_i g k M
  intro w ha hd hk ho hl
  obtain⟨hs,_,he⟩:=h
  obtain⟨v,w',es,e,gu,hp⟩:=he w ha hd
  exact⟨0,g,w,v,w',rfl,azZ hs e,hp,hk.guar gu hl,gu.os.trans ho⟩
 | step hs ok h ih=>
  rename_i g k M
  intro w ha hd hk ho hl
  obtain⟨g',w',es,e,gu⟩:=ok w ha hd
  obtain⟨n,g1,wl,v,w1,h1,h2⟩:=ih w g' w' es ha hd e w' (qZ ha gu) (u_ ha hd gu.size) (hk.guar gu hl) (gu.os.trans ho) fun b hb=>by
   rcases hb with hb | hb
   ·exact hl b hb
   ·exact Nat.le_trans hk.size hb.1
  refine⟨n+1,g1,wl,v,w1,?_,h2⟩
  show runN P (n+1) (solo g w)=_
  rw[runN,step_solo_go hs e]
  exact h1

theorem QE.alone{f:FuncId}{args:Array Value}{W:World}{u:Value}(hi:P.inits.idxOf? f=none)(T:QE P (az6 P (tZ P fun v _=>v=u)) f args (atStart W) u):
  ∃n g' wl w',runN P n (lone (Frame.enter P f args .normal) [] W)= .next (solo g' wl)∧Go.step P (solo g' wl)= .ended (.done u) w'∧Kept W w'∧w'.os=W.os:=by
 obtain⟨fn,c,ρ,h1,h2,h3,h4,h5⟩:=T
 have H:=CJ.top (R:=fun v=>v=u) h1 h2 hi h3 ρ h4 PD (fun b o hb=>(ku.1 hb).2) (fun v w hv _=>hv) h5
 obtain⟨n,g',wl,v,w',a1,a2,rfl,a4,a5⟩:=H.ends W (fun b o hb=>⟨o,(ku.1 hb).1,.inl rfl⟩) (fun b hb=>hb.elim) (.refl W) rfl fun b hb=>hb.elim
 exact⟨n,g',wl,w',a1,a2,a4,a5⟩

theorem axb{a:Assume}{C:Checked}{os:Go.Os}{f:FuncId}{r:Reach}{Pre:World→Array Value→Prop}{Post:World→Array Value→Value→World→Prop}
  (own:ownKnob C.prog.godebug=none) (started:os.Started)
  (
   witness:∃(w:World) (tape:Tape) (i:Input),w.os=os∧(w.forCall tape i).Shaped C.prog∧i.vars=[]∧Input.okWide C.prog (w.forCall tape i) r w.heap.size f i∧Pre (w.forCall tape i).memory i.args∧
   a.holds C.prog (lone (Frame.enter C.prog f i.args .normal) [] (w.forCall tape i)))
  (
   contract:∀(w:World) (tape:Tape) (i:Input),w.os=os→(w.forCall tape i).ShapedOpen C.prog→i.vars=[]→Input.okWide C.prog (w.forCall tape i) r w.heap.size f i→Pre (w.forCall tape i).memory i.args→
   a.holds C.prog (lone (Frame.enter C.prog f i.args .normal) [] (w.forCall tape i))→
   ∃n g' wl v w',runN C.prog n (lone (Frame.enter C.prog f i.args .normal) [] (w.forCall tape i))= .next (solo g' wl)∧Go.step C.prog (solo g' wl)= .ended (.done v) w'∧Post (w.forCall tape i).blind i.args v w'.blind):
  ReturnsInHanded a C os f r Pre Post:=fun enter=>by
 obtain⟨w0,t0,i0,a1,a2,a3,a4,a5,a6⟩:=witness
 refine⟨enter,own,started,⟨w0,t0,i0,a1,a2,a3,a4,a5,a6,trivial⟩,fun w tape i h=>?_⟩
 obtain⟨n,g',wl,v,w',hn,hend,hp⟩:=contract w tape i h.1 h.2.1 h.2.2.1 h.2.2.2.1 h.2.2.2.2.1 h.2.2.2.2.2.1
 have h1:(solo g' wl).gs.size≤1:=by simp[solo]
 have hend':runN C.prog (n+1) (lone (Frame.enter C.prog f i.args .normal) [] (w.forCall tape i))= .ended (.done v) w':=by
  rw[runN_add,hn]
  simp[runN,hend]
 refine⟨n+1,v,w',hend',(no_race_of_lone _ n _ _ hn h1 rfl).2,roomy_placeholder ..,hp,⟨n,_,hn,hend,⟨by simp[solo,Machine.othersDone],by simp[solo]⟩,handedOver_of_allBy (allBy_of_lone _ n _ _ hn h1 rfl),fun j g hg hj=>?_⟩,fun _ _ _=>trivial⟩
 cases j with
 | zero=>exact absurd rfl hj
 | succ k=>simp[solo]at hg
end
end Go.aS

/- The law on courses. Conditions: none; over the given program. -/
namespace Go.aS
set_option maxRecDepth 100000
set_option maxHeartbeats 1000000
theorem G7{α:Type}{row:α→List Value}{w:Nat}[rw':Rw row w]{j:Nat}{v:Value}{p p':α}(hj:j<w)(hr:row p'=(row p).set j v):∀{l:List α} {i:Nat},l[i]? =some p→(flat row l).set (i*w+j) v=flat row (l.set i p')
 | [],i,h=>by cases h
 | q::l,0,h=>by
  obtain rfl:q=p:=by simpa using h
  have hl:(row q).length=w:=Rw.len q
  rw[iV,List.set_cons_zero,iV,hr,Nat.zero_mul,Nat.zero_add,List.set_append_left _ _ (by rw[hl];exact hj)]
 | q::l,i+1,h=>by
  have hl:(row q).length=w:=Rw.len q
  have ih:=G7 (rw':=rw') hj hr (l:=l) (i:=i) h
  rw[iV,List.set_cons_succ,iV,←ih,List.set_append_right _ _ (by rw[hl,Nat.succ_mul];omega)]
  congr 2
  rw[hl,Nat.succ_mul];omega
theorem VR{α:Type}{row:α→List Value}{w:Nat}[Rw row w]{l:List α}:(flat row l).length=l.length*w:=jT ..
theorem Part.setRow{α:Type}{row:α→List Value}{w:Nat}[Rw row w]{c:Array Value}{l:List α}{i j:Nat}{v:Value}{p p':α}(h:Part c 0 (flat row l))(hi:l[i]? =some p)(hj:j<w)(hr:row p'=(row p).set j v):Part (c.setIfInBounds (i*w+j) v) 0 (flat row (l.set i p')):=by
 obtain⟨pre,post,h1,h2⟩:=h
 obtain rfl:=List.length_eq_zero_iff.1 h2
 refine⟨[],post,?_,rfl⟩
 have hil:i<l.length:=by
  rcases Nat.lt_or_ge i l.length with h' | h'
  ·exact h'
  ·rw[List.getElem?_eq_none h']at hi;cases hi
 rw[Array.toList_setIfInBounds,h1,List.nil_append,List.nil_append,←G7 hj hr hi,List.set_append_left]
 rw[VR]
 have:(i+1)*w≤l.length*w:=Nat.mul_le_mul_right _ hil
 rw[Nat.succ_mul]at this
 omega


theorem aAp:∀{hs:List Spn} {x:List Int},x.length=hs.length→(∀(i:Nat) p s,x[i]? =some p→hs[i]? =some s→s.lo≤p∧p≤s.hi)→x∈allH hs
 | [],x,h,_=>by
  rw[List.length_eq_zero_iff.1 h];simp[allH]
 | s::r,x,h,hp=>by
  rcases x with _ | ⟨a,x⟩
  ·simp at h
  ·simp only[allH,List.mem_flatMap,List.mem_map]
   exact⟨a,ay9.2 (hp 0 a s rfl rfl),x,aAp (by simpa using h) (fun i p s' h1 h2=>hp (i+1) p s' h1 h2),rfl⟩
theorem aAO{x:List Int}{n:Nat}(h:x.length=n):(asl x).take n=x:=by
 subst h
 simp[asl]
theorem fr5{p Y G:ah}:(p++(Y++G)).Perm (G++(p++Y)):=by
 rw[←List.append_assoc];exact List.perm_append_comm
theorem aCb{c:Array Value}{l:List Spn}{i:Nat}{p q:Spn}(h:Part c 0 (flat Spn.row l))(hi:l[i]? =some p):Part (jv c (0+i*2) [I q.lo,I q.hi]) 0 (flat Spn.row (l.set i q)):=by
 have h1:=h.setRow (row:=Spn.row) (w:=2) (j:=0) (v:=I q.lo) (p':=⟨q.lo,p.hi⟩) hi (by decide) rfl
 have hil:=(List.getElem?_eq_some_iff.1 hi).1
 have h2:=h1.setRow (row:=Spn.row) (w:=2) (i:=i) (j:=1) (v:=I q.hi) (p:=⟨q.lo,p.hi⟩) (p':=q) (by rw[List.getElem?_set_self hil]) (by decide) rfl
 rw[List.set_set]at h2
 simpa[jv]using h2

theorem az0(main:Side)(hmb:main.b=true)(h:Hp)(nums:List Int)(lv:Value)(Eg:TypeId)(zg:Nat×Nat)(hl:Sl h fH lv nums)(hg:h 0=some (.cells #[Ur qM] Eg zg)):QE prog main gq #[lv] h (.bool true):=by
 refine QE.aG zl rfl (by show 1≤228;decide) [(0,lv)] ⟨rfl,trivial⟩ ?_
 refine W.seq<|W.region rfl<|agb rfl rfl rfl<|pq<|W.seq<|W.region rfl<|qm rfl rfl rfl ?_
 refine c0 (fun h' hE hL=>VQ _ h' nums lv (hl.ext hE)) (fun v A' hv=>?_)
 obtain⟨b,s0',rfl,rfl⟩:=hv
 refine agb rfl rfl rfl<|pq<|W.seq<|W.region rfl<|qm rfl rfl rfl ?_
 refine cg (A:=[(b,_)]) .head (fun h' hE hL=>aAM _ h' nums lv b 0 s0' (hl.ext hE) (by omega)) (fun v A' hv=>?_)
 obtain⟨vs,vr,vm,vh,sp0,r0,m1,m2,m3,hs,Ss,Sr,Sm,Sh,k1,s1,rfl,hS,hR,hM,hH,hmk,hn1,hn4,hk1,hsb⟩:=hv
 obtain⟨asx,caps,rfl⟩:=hS.dA
 obtain⟨ar,azt,rfl⟩:=hR.dA
 obtain⟨am,azu,rfl⟩:=hM.dA
 obtain⟨ah,azl,rfl⟩:=hH.dA
 obtain⟨βs,cs,Js,rfl,rfl,-,hcs,hls,hPs,hJs⟩:=hS.open (Nat.le_of_ble_eq_true rfl)
 obtain⟨βr,cr,Jr,rfl,rfl,-,hcr,hlr,hPr,hJr⟩:=hR.open (Nat.le_of_ble_eq_true rfl)
 obtain⟨Fe,cm,Jm,rfl,rfl,-,hcm,hlm,hPm,hJm⟩:=hM.open (Nat.le_of_ble_eq_true rfl)
 obtain⟨βh,ch,Jh,rfl,rfl,-,hch,hlh,hPh,hJh⟩:=hH.open (by omega)
 have hlS:[sp0].length=1:=rfl
 have hlR:[r0].length=1:=rfl
 have hcs2:2≤cs.size:=by omega
 have hcr2:1≤cr.size:=by omega
 refine Ops.sb (F':=(b,wF lv k1 s1)::(βs,.cells cs eG (0,0))::(βr,.cells cr dL (0,0))::(Fe,.cells cm dL (0,0))::[(βh,.cells ch eG (0,0))]) ?_ ?_
 ·rw[List.append_nil]
  refine Sb.trans ?_ hsb
  exact .cons (.cons (Sb.left (.cons (Sb.left (.cons (Sb.left (.cons ⟨Jh,by simp,hJh⟩) hJm)) hJr)) hJs))
 obtain⟨n,hn⟩:∃n,n=hs.length:=⟨_,rfl⟩
 rw[←hn]at hn1 hn4 hlh⊢
 refine Ops.new (fun wC=>?_)
 first | refine Ops.jP ?_ | refine Ops.nY ?_
 refine pq<|W.seq ?_
 refine W.DR [(wC,.cells (awE (.slice (some ⟨βs,0,none⟩) 1 caps) (.slice (some ⟨βr,0,none⟩) 1 azt) (.slice (some ⟨Fe,0,none⟩) 3 azu) (.slice (some ⟨βh,0,none⟩) n azl)) zf (0,0))] (n:=7) rfl ?_
 refine xq 0 (ay rfl rfl) rfl ?_
 refine xq 1 (iQ rfl rfl) rfl ?_
 refine xq 2 (aN rfl rfl) rfl ?_
 refine ae (i:=3) rfl an rfl rfl (QZ (args:=[_,_]) rfl rfl (.tail (.head (A:=[(b,_)]))) (fun h' hE hL=>UC _ h' nums lv b k1 s1 3 (hl.ext hE) (by omega) (by omega)) (fun v A' hv=>?_))
 refine⟨.inr (Keeps.one (.head _) Keeps.nil),?_⟩
 obtain⟨lo,s2,rfl,hlo,hsb⟩:=hv
 refine Any.sb (.cons (hsb.app .refl)) ?_
 refine xq 4 (eH rfl rfl rfl) rfl ?_
 first | refine xq 5 (G_ rfl rfl rfl) rfl ?_ | refine xq 5 (o_ rfl rfl rfl) rfl ?_
 first | refine ae (i:=6) rfl an rfl rfl (eSW rfl rfl rfl ?_) | refine ae (i:=6) rfl an rfl rfl (eSA rfl rfl rfl ?_)
 refine⟨.inl (by kernel_rfl),?_⟩
 refine az ?_
 refine aA<|W.seq<|W.region rfl ?_
 refine agY rfl ?_
 refine agX rfl ?_
 refine ag3 rfl ?_
 refine Ops.yG ?_
 refine pq<|W.seq<|W.seq<|W.region rfl<|agb rfl rfl rfl<|pq<|W.block ?_
 refine W.sb (F':=(wC,.cells (awE (.slice (some ⟨βs,0,none⟩) 1 caps) (.slice (some ⟨βr,0,none⟩) 1 azt) (.slice (some ⟨Fe,0,none⟩) 3 azu) (.slice (some ⟨βh,0,none⟩) n azl)) zf (0,0))::(b,wF lv (k1+1) s2)::(βs,.cells (jv cs (0+0*2) [I lo,I 3]) eG (0,0))::(βr,.cells (cr.setIfInBounds (0+0*1) (I 1)) dL (0,0))::(Fe,.cells cm dL (0,0))::[(βh,.cells ch eG (0,0))]) (.eq (by kernel_rfl)) ?_
 have aBJ:Part (jv cs (0+0*2) [I lo,I 3]) 0 (flat Spn.row [⟨lo,3⟩]):=aCb (q:=⟨lo,3⟩) hPs rfl
 have aCV:Part (cr.setIfInBounds (0+0*1) (I 1)) 0 (flat fH [1]):=Part.setRow (row:=fH) (w:=1) (i:=0) (j:=0) (v:=I 1) (p:=r0) (p':=1) hPr rfl (by decide) rfl
 generalize jv cs (0+0*2) [I lo,I 3]=cs2 at*
 generalize cr.setIfInBounds (0+0*1) (I 1)=cr2 at*
 refine W.Js (σ:=Nat) (τ:=List Spn×Array Value) (υ:=Nat×Int) (fun i t u=>i≤n∧t.1.length=n∧t.2.size=azl*2∧Part t.2 0 (flat Spn.row t.1)∧(∀j,j<i→∀s,t.1[j]? =some s→0≤s.lo∧s.lo≤1∧s.hi=2)∧u.1=k1+1+i) (fun i _ _=>[(5,I i),(4,bI wC),(3,bI b)])
  (fun _ t u=>(wC,.cells (awE (.slice (some ⟨βs,0,none⟩) 1 caps) (.slice (some ⟨βr,0,none⟩) 1 azt) (.slice (some ⟨Fe,0,none⟩) 3 azu) (.slice (some ⟨βh,0,none⟩) n azl)) zf (0,0))::(b,wF lv u.1 u.2)::(βs,.cells cs2 eG (0,0))::(βr,.cells cr2 dL (0,0))::(Fe,.cells cm dL (0,0))::[(βh,.cells t.2 eG (0,0))]) (fun i _ _=>n-i) 0 (hs,ch) (k1+1,s2) ⟨Nat.zero_le _,hn.symm,hch,hPh,(fun j hj=>by omega),rfl⟩ ⟨rfl,rfl,rfl,trivial⟩ .refl ?_
 clear hPh hch
 rintro i ⟨l,ch2⟩ ⟨k2,s3⟩ ⟨hi,hll,hcz,hPl,hlt,hk2⟩
 dsimp only at*
 refine W.seq<|W.seq<|W.region rfl<|qm rfl rfl rfl ?_
 refine agY rfl ?_
 refine agX rfl ?_
 refine agW (dM rfl rfl) rfl ?_
 refine agW (fO rfl rfl rfl) rfl ?_
 refine pq ?_
 refine W.bC rfl (fun c37=>?_) (fun c37=>?_)
 ·have hin:i<n:=by omega
  obtain⟨sp,hsp,-⟩:=has (show i<l.length by omega)
  have hci:0+i*2+2≤ch2.size:=by omega
  refine W.skip<|aA<|W.seq<|W.block ?_
  refine W.DR [(wC,.cells (awE (.slice (some ⟨βs,0,none⟩) 1 caps) (.slice (some ⟨βr,0,none⟩) 1 azt) (.slice (some ⟨Fe,0,none⟩) 3 azu) (.slice (some ⟨βh,0,none⟩) n azl)) zf (0,0))] (n:=8) rfl ?_
  refine xq 0 (ay rfl rfl) rfl ?_
  refine xq 1 (iQ rfl rfl) rfl ?_
  refine xq 2 (aN rfl rfl) rfl ?_
  refine xq 3 (aN rfl rfl) rfl ?_
  refine ae (i:=4) rfl an rfl rfl (QZ (args:=[_,_]) rfl rfl (.tail (.head (A:=[(b,_)]))) (fun h' hE hL=>UC _ h' nums lv b k2 s3 1 (hl.ext hE) (by omega) (by omega)) (fun v A' hv=>?_))
  refine⟨.inr (Keeps.one (.head _) Keeps.nil),?_⟩
  obtain⟨x,s4,rfl,hx,hsb⟩:=hv
  refine Any.sb (.cons (hsb.app .refl)) ?_
  refine xq 5 (eH rfl rfl rfl) rfl ?_
  first | refine xq 6 (G_ rfl rfl rfl) rfl ?_ | refine xq 6 (o_ rfl rfl rfl) rfl ?_
  first | refine ae (i:=7) rfl an rfl rfl (eSW rfl rfl rfl ?_) | refine ae (i:=7) rfl an rfl rfl (eSA rfl rfl rfl ?_)
  refine⟨.inl (by kernel_rfl),?_⟩
  refine az ?_
  refine dI<|aA<|W.region rfl<|qm rfl rfl rfl ?_
  refine ag1 rfl ?_
  refine agb rfl rfl rfl<|pq ?_
  refine⟨rfl,i+1,(l.set i ⟨x,2⟩,jv ch2 (0+i*2) [I x,I 2]),(k2+1,s4),⟨by omega,by rw[List.length_set];exact hll,by rw[y9];exact hcz,aCb (q:=⟨x,2⟩) hPl hsp,fun j hj s hs'=>?_,by dsimp only;omega⟩,by omega,⟨rfl,rfl,rfl,trivial⟩,.eq (by kernel_rfl)⟩
  rcases Nat.lt_or_ge j i with h | h
  ·rw[List.getElem?_set_ne (by omega)]at hs'
   exact hlt j h s hs'
  ·obtain rfl:j=i:=by omega
   rw[List.getElem?_set_self (by omega)]at hs'
   cases hs'
   show 0≤x∧x≤1∧(2:Int)=2
   omega
 ·obtain rfl:n=i:=by omega
  have hlp:∀s∈l,0≤s.lo∧s.lo≤1∧s.hi=2:=fun s hs'=>by
   obtain⟨j,hj⟩:=List.mem_iff_getElem?.1 hs'
   exact hlt j (by have:=(List.getElem?_eq_some_iff.1 hj).1;omega) s hj
  have ok:ayl [⟨lo,3⟩] [1] (m1,m2,m3) l:=⟨Nat.le_refl 1,Nat.le_of_ble_eq_true rfl,fun s hs'=>by rw[List.mem_singleton.1 hs'];exact⟨hlo.1,by dsimp only;omega,by show(3:Int)≤40;decide⟩,rfl,fun r hr=>by rw[List.mem_singleton.1 hr];decide,hmk,by omega,by omega,fun s hs'=>by have:=hlp s hs';omega⟩
  have hBM:∀h':Hp,h' βs=some (.cells cs2 eG (0,0))→h' βr=some (.cells cr2 dL (0,0))→h' Fe=some (.cells cm dL (0,0))→h' βh=some (.cells ch2 eG (0,0))→ayQ h' (.slice (some ⟨βs,0,none⟩) 1 caps) (.slice (some ⟨βr,0,none⟩) 1 azt) (.slice (some ⟨Fe,0,none⟩) 3 azu) (.slice (some ⟨βh,0,none⟩) n azl) [⟨lo,3⟩] [1] (m1,m2,m3) l:=fun h' e1 e2 e3 e4=>⟨Sl.mk e1 rfl aBJ,Sl.mk e2 rfl aCV,Sl.mk e3 rfl hPm,by rw[←hll];exact Sl.mk e4 rfl hPl⟩
  refine W.exit<|bP<|bP<|gG<|aA<|W.seq<|W.region rfl<|qm rfl rfl rfl ?_
  first | refine ag2 rfl ?_ | refine agW (ady rfl rfl) rfl ?_
  refine cg (A:=[(b,_)]) (.tail (.head (A:=[(b,_)]))) (fun h' hE hL=>aA8 _ h' nums lv b k2 s3 _ _ _ _ _ ⟨lo,3⟩ l (hl.ext hE) (by omega) (hBM h' (hL βs _ (.tail _ (.head _))) (hL βr _ (.tail _ (.tail _ (.head _)))) (hL Fe _ (.tail _ (.tail _ (.tail _ (.head _))))) (hL βh _ (.tail _ (.tail _ (.tail _ (.tail _ (.head _))))))).sm (hBM h' (hL βs _ (.tail _ (.head _))) (hL βr _ (.tail _ (.tail _ (.head _)))) (hL Fe _ (.tail _ (.tail _ (.tail _ (.head _))))) (hL βh _ (.tail _ (.tail _ (.tail _ (.tail _ (.head _))))))).hm (ok.sp _ (List.mem_cons_self ..)) (by omega) ok.hp) (fun v A' hv=>?_)
  obtain⟨vq,vw,q,bf,Sq,Sw,k4,s4,rfl,hQ,hW,hq,hwl,hwin,-,hsb⟩:=hv
  refine Ops.sb (F':=(wC,.cells (awE (.slice (some ⟨βs,0,none⟩) 1 caps) (.slice (some ⟨βr,0,none⟩) 1 azt) (.slice (some ⟨Fe,0,none⟩) 3 azu) (.slice (some ⟨βh,0,none⟩) n azl)) zf (0,0))::(βs,.cells cs2 eG (0,0))::(βr,.cells cr2 dL (0,0))::(Fe,.cells cm dL (0,0))::(βh,.cells ch2 eG (0,0))::(Sq++Sw)) (.cons ((Sb.dF (List.perm_append_comm (l₁:=[_,_,_,_]) (l₂:=Sq++Sw))).trans ((Sb.app (Sb.skip rfl .refl) .refl).trans (hsb.app .refl)))) ?_
  have hht:∀a∈bf,0≤a∧a≤2:=fun a ha=>by
   obtain⟨j,hj⟩:=List.mem_iff_getElem?.1 ha
   have hjl:=(List.getElem?_eq_some_iff.1 hj).1
   obtain⟨s,hsj,-⟩:=has (show j<l.length by omega)
   have h1:=hwin j a s hj hsj
   have h2:=hlp s (List.mem_of_getElem? hsj)
   omega
  obtain⟨wa,wc,rfl⟩:=hW.dA
  obtain⟨qa,qc,rfl⟩:=hQ.dA
  obtain⟨βq,cq,Jq,rfl,rfl,-,hcq,hlq,hPq,hJq⟩:=hQ.open (Nat.le_of_ble_eq_true rfl)
  refine qm rfl rfl rfl<|oq (bD rfl rfl rfl) rfl wn rfl rfl<|oq (bD rfl rfl rfl) rfl wn rfl rfl<|agb rfl rfl rfl<|agb rfl rfl rfl<|pq<|W.seq<|W.region rfl ?_
  first | refine ag2 rfl ?_ | refine agW (ady rfl rfl) rfl ?_
  refine qm rfl rfl rfl<|qm rfl rfl rfl ?_
  refine c0 (fun h' hE hL=>az5 _ h' _ _ _ _ _ _ ⟨lo,3⟩ 1 q (m1,m2,m3) l bf ok (hBM h' (hL βs _ (.tail _ (.head _))) (hL βr _ (.tail _ (.tail _ (.head _)))) (hL Fe _ (.tail _ (.tail _ (.tail _ (.head _))))) (hL βh _ (.tail _ (.tail _ (.tail _ (.tail _ (.head _))))))) (hQ.sl fun b o hb=>hL b o (.tail _ (.tail _ (.tail _ (.tail _ (.tail _ (List.mem_append_left _ hb))))))) (hW.sl fun b o hb=>hL b o (.tail _ (.tail _ (.tail _ (.tail _ (.tail _ (List.mem_append_right _ hb))))))) hq (by omega) hwin) (fun v A' hv=>?_)
  obtain⟨vc,O,us,B,rfl,hO,hB,hsb⟩:=hv
  obtain⟨oa,oc,rfl⟩:=hO.dA
  refine Ops.sb (F':=(wC,.cells (awE (.slice (some ⟨βs,0,none⟩) 1 caps) (.slice (some ⟨βr,0,none⟩) 1 azt) (.slice (some ⟨Fe,0,none⟩) 3 azu) (.slice (some ⟨βh,0,none⟩) n azl)) zf (0,0))::(βs,.cells cs2 eG (0,0))::(βr,.cells cr2 dL (0,0))::(Fe,.cells cm dL (0,0))::(βh,.cells ch2 eG (0,0))::(((βq,.cells cq dL (0,0))::Jq++Sw)++(O++B))) (Sb.trans (.dF (fr5 (p:=[_,_,_,_,_]) (Y:=(βq,.cells cq dL (0,0))::Jq++Sw) (G:=O++B))) (hsb.app .refl)) ?_
  refine qm rfl rfl rfl<|oq (bD rfl rfl rfl) rfl wn rfl rfl<|oq (bD rfl rfl rfl) rfl wn rfl rfl<|agb rfl rfl rfl<|agb rfl rfl rfl<|pq<|W.seq<|W.region rfl<|agb rfl rfl rfl ?_
  refine pq<|W.seq<|W.seq<|W.region rfl<|agb rfl rfl rfl<|pq<|W.block ?_
  obtain⟨Y,hY⟩:∃Y,Y=((βq,.cells cq dL (0,0))::Jq++Sw)++(O++B):=⟨_,rfl⟩
  rw[←hY]
  refine W.Js (σ:=Nat) (τ:=Value) (υ:=ah) (fun i v S=>i≤3∧Os Ag Pn.row v (psT.take i) S) (fun i v _=>[(11,I i),(10,v),(6,.slice (some ⟨βq,0,none⟩) [q].length qc),(7,.slice wa bf.length wc),(8,.slice oa us.length oc),(9,I 0),(4,bI wC)])
   (fun _ _ S=>(wC,.cells (awE (.slice (some ⟨βs,0,none⟩) 1 caps) (.slice (some ⟨βr,0,none⟩) 1 azt) (.slice (some ⟨Fe,0,none⟩) 3 azu) (.slice (some ⟨βh,0,none⟩) n azl)) zf (0,0))::(βs,.cells cs2 eG (0,0))::(βr,.cells cr2 dL (0,0))::(Fe,.cells cm dL (0,0))::(βh,.cells ch2 eG (0,0))::(S++Y)) (fun i _ _=>3-i) 0 (.slice none 0 0) [] ⟨by decide,.nil .nil⟩ ⟨rfl,rfl,rfl,rfl,rfl,rfl,rfl,trivial⟩ .refl ?_
  rintro i v S ⟨hi3,hP⟩
  obtain⟨pa,pc,rfl⟩:=hP.dA
  refine W.seq<|W.seq<|W.region rfl<|qm rfl rfl rfl ?_
  refine agW (Lr rfl rfl rfl) rfl ?_
  refine pq ?_
  refine W.bC rfl (fun c61=>?_) (fun c61=>?_)
  ·have hnx:psT.take (i+1)=psT.take i++[⟨0,12,(i:Int)⟩]:=by
    have:i=0∨i=1∨i=2:=by omega
    rcases this with rfl | rfl | rfl <;>rfl
   refine W.skip<|aA<|W.seq<|W.block<|W.region rfl<|qm rfl rfl rfl<|qm rfl rfl rfl ?_
   refine agW (eH rfl rfl rfl) rfl ?_
   refine Ops.NK (cs:= #[I 0,I 12,I i]) (fun aCW=>?_) rfl
   refine oe rfl wn rfl rfl (iW (row:=Pn.row) (l':=[⟨0,12,(i:Int)⟩]) rfl rfl rfl hP (.tail (.tail (.tail (.tail (.tail (.tail .head)))))) (fun h2 _ hl=>Sl.mk (hl aCW _ (.head _)) rfl (Part.all (flat Pn.row [⟨0,12,(i:Int)⟩]))) (by simp;omega) (by decide) rfl (fun v2 S2 hS2=>?_))
   refine agb rfl rfl rfl<|Ops.nil<|dI<|aA<|W.region rfl<|qm rfl rfl rfl ?_
   refine ag1 rfl ?_
   refine agb rfl rfl rfl<|pq ?_
   exact⟨rfl,i+1,v2,S2,⟨by omega,by rw[hnx];exact hS2⟩,by omega,⟨rfl,rfl,rfl,rfl,rfl,rfl,rfl,trivial⟩,.skip rfl .refl⟩
  ·obtain rfl:i=3:=by omega
   have hlQ:[q].length=1:=rfl
   have hP3:Os Ag Pn.row (.slice pa 3 pc) psT S:=hP
   refine W.exit<|bP<|bP<|gG<|aA<|W.seq<|W.region rfl<|qm rfl rfl rfl<|qm rfl rfl rfl ?_
   refine ag3 rfl ?_
   have hxq:cq[0+0*1+0]? =some (I q):=Part.Bo hPq (i:=0) (p:=q) rfl 0 (by decide)
   refine oq (iQ rfl rfl (.inr (fun _ e=>by subst e;exact(.tail _ (.tail _ (.tail _ (.tail _ (.tail _ (List.mem_append_right _ (by rw[hY];exact .head _))))))))) hxq) rfl wn rfl rfl ?_
   refine qm rfl rfl rfl ?_
   have hq3:0≤q∧q≤3:=by
    have h1:lo≤q∧q≤3:=hq
    omega
   refine c0 (fun h' hE hL=>aah _ h' psT _ q bf _ Eg zg (hP3.sl fun b o hb=>hL b o (.tail _ (.tail _ (.tail _ (.tail _ (.tail _ (List.mem_append_left _ hb))))))) (hW.sl fun b o hb=>hL b o (.tail _ (.tail _ (.tail _ (.tail _ (.tail _ (List.mem_append_right _ (by rw[hY];exact(List.mem_append_left _ (List.mem_append_right _ hb)))))))))) (hE.1 _ _ hg)) (fun v A' hv=>?_)
   rw[aA9 hht hq3 (by omega)]at hv
   obtain⟨wg,SG,rfl,hG,hsb⟩:=hv
   obtain⟨G,hGd⟩:∃G,G=zs (aw8 q.toNat bf):=⟨_,rfl⟩
   have hGl:G.length=bf.length:=by rw[hGd,kT,ayn]
   have aCc:∀j,j<bf.length→G[j]? =some (q+Ju (bf.take (j+1))):=fun j hj=>by
    rw[hGd,azc (fun a ha=>(hht a ha).1) hj]
    congr 1;omega
   change Os dL fH wg (zs (aw8 q.toNat bf)) SG at hG
   rw[←hGd]at hG
   clear hGd
   refine Ops.sb (F':=(wC,.cells (awE (.slice (some ⟨βs,0,none⟩) 1 caps) (.slice (some ⟨βr,0,none⟩) 1 azt) (.slice (some ⟨Fe,0,none⟩) 3 azu) (.slice (some ⟨βh,0,none⟩) n azl)) zf (0,0))::(βs,.cells cs2 eG (0,0))::(βr,.cells cr2 dL (0,0))::(Fe,.cells cm dL (0,0))::(βh,.cells ch2 eG (0,0))::((S++Y)++SG)) (Sb.trans (.dF (fr5 (p:=[_,_,_,_,_]) (Y:=S++Y) (G:=SG))) (hsb.app .refl)) ?_
   obtain⟨ga,gc,rfl⟩:=hG.dA
   have hul:us.length=bf.length+1:=by rw[hB.1,aAo]
   obtain⟨βg,cg',Jg,rfl,hGe,-,hcg,hlg,hPg,hJg⟩:=hG.open (by omega)
   obtain⟨βo,co,Jo,rfl,hOe,-,-,-,hPo,-⟩:=hO.open (by omega)
   refine qm rfl rfl rfl<|oq (bD rfl rfl rfl) rfl wn rfl rfl<|oq (bD rfl rfl rfl) rfl wn rfl rfl<|agb rfl rfl rfl<|agb rfl rfl rfl<|pq<|W.seq<|W.seq<|W.region rfl ?_
   refine qm rfl rfl rfl ?_
   refine agW (nG rfl rfl rfl) rfl ?_
   refine qm rfl rfl rfl ?_
   refine Ops.ask (fun agO=>?_) (fun agO=>?_)
   ·refine Ops.no ?_
    refine Ops.no ?_
    refine agW (dG rfl rfl rfl) rfl ?_
    refine qm rfl rfl rfl ?_
    refine Ops.no ?_
    refine Ops.no ?_
    refine Ops.no ?_
    refine Ops.no ?_
    refine Ops.no ?_
    refine Ops.no ?_
    refine agW (dG rfl rfl rfl) rfl ?_
    refine qm rfl rfl rfl ?_
    refine Ops.no ?_
    refine Ops.no ?_
    refine Ops.no ?_
    refine Ops.no ?_
    refine Ops.no ?_
    refine agW (dG rfl rfl rfl) rfl ?_
    refine pq ?_
    refine W.dW ?_
    refine W.seq<|W.region rfl<|agb rfl rfl rfl<|pq<|W.ret<|aY ?_
    exfalso
    first | exact absurd rfl ‹_› | omega | (simp at*;omega)
   ·refine oq (aN rfl rfl) rfl (ak rfl rfl rfl) rfl rfl ?_
    refine oq (nG rfl rfl rfl) rfl (ak rfl rfl rfl) rfl rfl ?_
    refine agW (iH rfl rfl rfl) rfl ?_
    refine qm rfl rfl rfl ?_
    refine Ops.ask (fun asr=>?_) (fun asr=>?_)
    ·refine Ops.no ?_
     refine Ops.no ?_
     refine Ops.no ?_
     refine Ops.no ?_
     refine Ops.no ?_
     refine Ops.no ?_
     refine agW (dG rfl rfl rfl) rfl ?_
     refine qm rfl rfl rfl ?_
     refine Ops.no ?_
     refine Ops.no ?_
     refine Ops.no ?_
     refine Ops.no ?_
     refine Ops.no ?_
     refine agW (dG rfl rfl rfl) rfl ?_
     refine pq ?_
     refine W.dW ?_
     refine W.seq<|W.region rfl<|agb rfl rfl rfl<|pq<|W.ret<|aY ?_
     exfalso
     first | exact absurd rfl ‹_› | omega | (simp at*;omega)
    ·refine oq (aN rfl rfl) rfl (ak rfl rfl rfl) rfl rfl ?_
     refine oq (dM rfl rfl) rfl (ak rfl rfl rfl) rfl rfl ?_
     refine oq (aN rfl rfl) rfl (ak rfl rfl rfl) rfl rfl ?_
     refine oq (dM rfl rfl) rfl (ak rfl rfl rfl) rfl rfl ?_
     first | refine oq (Zi rfl rfl rfl) rfl (ak rfl rfl rfl) rfl rfl ?_ | refine oq (MZ rfl rfl rfl) rfl (ak rfl rfl rfl) rfl rfl ?_
     refine oq (nG rfl rfl rfl) rfl (ak rfl rfl rfl) rfl rfl ?_
     refine agW (iH rfl rfl rfl) rfl ?_
     refine qm rfl rfl rfl ?_
     refine Ops.ask (fun aBK=>?_) (fun aBK=>?_)
     ·refine Ops.no ?_
      refine Ops.no ?_
      refine Ops.no ?_
      refine Ops.no ?_
      refine Ops.no ?_
      refine agW (dG rfl rfl rfl) rfl ?_
      refine pq ?_
      refine W.dW ?_
      refine W.seq<|W.region rfl<|agb rfl rfl rfl<|pq<|W.ret<|aY ?_
      exfalso
      first | exact absurd rfl ‹_› | omega | (simp at*;omega)
     ·refine oq (aN rfl rfl) rfl (ak rfl rfl rfl) rfl rfl ?_
      refine oq (dM rfl rfl) rfl (ak rfl rfl rfl) rfl rfl ?_
      refine oq (aN rfl rfl) rfl (ak rfl rfl rfl) rfl rfl ?_
      refine oq (dM rfl rfl) rfl (ak rfl rfl rfl) rfl rfl ?_
      refine oq (nG rfl rfl rfl) rfl (ak rfl rfl rfl) rfl rfl ?_
      refine agW (iH rfl rfl rfl) rfl ?_
      refine pq ?_
      refine W.bC rfl (fun c98=>?_) (fun c98=>?_)
      ·refine W.seq<|W.region rfl<|agb rfl rfl rfl<|pq<|W.ret<|aY ?_
       exfalso
       first | exact absurd rfl ‹_› | omega | (simp at*;omega)
      ·refine W.skip<|aA<|W.seq<|W.seq<|W.region rfl<|agb rfl rfl rfl<|pq<|W.block ?_
       refine W.loop (σ:=Nat) (fun i=>i≤G.length) (fun i=>[(14,I i),(12,.slice (some ⟨βg,0,none⟩) G.length gc),(8,.slice (some ⟨βo,0,none⟩) us.length oc),(7,.slice wa bf.length wc),(10,.slice pa 3 pc),(4,bI wC)]) (fun _=>(wC,.cells (awE (.slice (some ⟨βs,0,none⟩) 1 caps) (.slice (some ⟨βr,0,none⟩) 1 azt) (.slice (some ⟨Fe,0,none⟩) 3 azu) (.slice (some ⟨βh,0,none⟩) n azl)) zf (0,0))::(βs,.cells cs2 eG (0,0))::(βr,.cells cr2 dL (0,0))::(Fe,.cells cm dL (0,0))::(βh,.cells ch2 eG (0,0))::((S++Y)++SG)) (fun i=>G.length-i) 0 (Nat.zero_le _) ⟨rfl,rfl,rfl,rfl,rfl,rfl,trivial⟩ .refl ?_
       rintro i hi
       refine W.seq<|W.seq<|W.region rfl<|qm rfl rfl rfl<|qm rfl rfl rfl ?_
       refine agW (dM rfl rfl) rfl ?_
       refine agW (fO rfl rfl rfl) rfl ?_
       refine pq ?_
       refine W.bC rfl (fun aCY=>?_) (fun aCY=>?_)
       ·have hil:i<bf.length:=by omega
        obtain⟨s,hsk,-⟩:=has (show i+1<us.length by omega)
        have hvk:(ayx q 1 bf (bf.length+1))[i+1]? =some (q+1*Ju (bf.take (i+1))):=aAD (by omega)
        obtain⟨βw,cb,cp,rfl,hmb,hpb⟩:=hB.2.2 (i+1) s _ hsk hvk
        have hxb:cb[0+0*1+0]? =some (I (q+1*Ju (bf.take (i+1)))):=Part.Bo hpb (i:=0) (p:=_) rfl 0 (by decide)
        have hcell:co[0+(i+1)*1+0]? =some (.slice (some ⟨βw,0,none⟩) 1 cp):=hPo.Bo hsk 0 (by decide)
        have hxg:cg'[0+i*1+0]? =some (I (q+Ju (bf.take (i+1)))):=hPg.Bo (aCc i hil) 0 (by decide)
        refine W.skip<|aA<|W.seq<|W.block<|W.seq ?_
        refine W.rE (n:=21) rfl ?_
        refine xq 0 (aN rfl rfl) rfl ?_
        refine xq 1 (aN rfl rfl) rfl ?_
        refine aqe (i:=2) (Zi rfl rfl rfl) (show I _=I ((i+1:Nat):Int) by congr 1) rfl an rfl rfl ?_
        first | refine xq 3 (G_ rfl rfl rfl) rfl ?_ | refine xq 3 (o_ rfl rfl rfl) rfl ?_
        refine aq (i:=4) (iQ rfl rfl (.inr (fun _ e=>e _ (.tail _ (.tail _ (.tail _ (.tail _ (.tail _ (List.mem_append_left _ (List.mem_append_right _ (by rw[hY];exact(List.mem_append_right _ (List.mem_append_left _ (by rw[hOe];exact .head _))))))))))))) hcell) rfl an rfl rfl ?_
        refine xq 5 (dM rfl rfl) rfl ?_
        refine xq 6 (nG rfl rfl rfl) rfl ?_
        refine xq 7 (aN rfl rfl) rfl ?_
        refine Any.ask (d':=112) (fun aCd=>?_) (fun aCd=>?_)
        ·refine ap (i:=8) rfl rfl rfl rfl rfl rfl ?_
         refine ap (i:=9) rfl rfl rfl rfl rfl rfl ?_
         refine ap (i:=10) rfl rfl rfl rfl rfl rfl ?_
         refine ap (i:=11) rfl rfl rfl rfl rfl rfl ?_
         refine ap (i:=12) rfl rfl rfl rfl rfl rfl ?_
         refine ap (i:=13) rfl rfl rfl rfl rfl rfl ?_
         refine ap (i:=14) rfl rfl rfl rfl rfl rfl ?_
         refine ap (i:=15) rfl rfl rfl rfl rfl rfl ?_
         refine ap (i:=16) rfl rfl rfl rfl rfl rfl ?_
         refine ap (i:=17) rfl rfl rfl rfl rfl rfl ?_
         refine ap (i:=18) rfl rfl rfl rfl rfl rfl ?_
         refine ap (i:=19) rfl rfl rfl rfl rfl rfl ?_
         refine xq 20 (dG rfl rfl rfl) rfl ?_
         refine az ?_
         refine aA ?_
         refine W.dW ?_
         refine W.seq<|W.region rfl<|agb rfl rfl rfl<|pq<|W.ret<|cZ<|aY<|aY<|cZ ?_
         refine aY ?_
         exfalso
         first | exact absurd rfl ‹_› | omega | (simp at*;omega)
        ·refine aq (i:=8) (aN rfl rfl) rfl (b_ rfl rfl rfl rfl) rfl rfl ?_
         refine aq (i:=9) (aN rfl rfl) rfl (b_ rfl rfl rfl rfl) rfl rfl ?_
         refine aqe (i:=10) (Zi rfl rfl rfl) (show I _=I ((i+1:Nat):Int) by congr 1) rfl (b_ rfl rfl rfl rfl) rfl rfl ?_
         first | refine aq (i:=11) (G_ rfl rfl rfl) rfl (b_ rfl rfl rfl rfl) rfl rfl ?_ | refine aq (i:=11) (o_ rfl rfl rfl) rfl (b_ rfl rfl rfl rfl) rfl rfl ?_
         refine aq (i:=12) (iQ rfl rfl (.inr (fun _ e=>e _ (.tail _ (.tail _ (.tail _ (.tail _ (.tail _ (List.mem_append_left _ (List.mem_append_right _ (by rw[hY];exact(List.mem_append_right _ (List.mem_append_left _ (by rw[hOe];exact .head _))))))))))))) hcell) rfl (b_ rfl rfl rfl rfl) rfl rfl ?_
         first | refine aq (i:=13) (G_ rfl rfl rfl) rfl (b_ rfl rfl rfl rfl) rfl rfl ?_ | refine aq (i:=13) (o_ rfl rfl rfl) rfl (b_ rfl rfl rfl rfl) rfl rfl ?_
         refine aq (i:=14) (iQ rfl rfl (.inr (fun _ e=>e _ (.tail _ (.tail _ (.tail _ (.tail _ (.tail _ (List.mem_append_left _ (List.mem_append_right _ (by rw[hY];exact(List.mem_append_right _ (List.mem_append_right _ hmb)))))))))))) hxb) rfl (b_ rfl rfl rfl rfl) rfl rfl ?_
         refine aq (i:=15) (aN rfl rfl) rfl (b_ rfl rfl rfl rfl) rfl rfl ?_
         refine aq (i:=16) (aN rfl rfl) rfl (b_ rfl rfl rfl rfl) rfl rfl ?_
         first | refine aq (i:=17) (G_ rfl rfl rfl) rfl (b_ rfl rfl rfl rfl) rfl rfl ?_ | refine aq (i:=17) (o_ rfl rfl rfl) rfl (b_ rfl rfl rfl rfl) rfl rfl ?_
         refine aq (i:=18) (iQ rfl rfl (.inr (fun _ e=>e _ (.tail _ (.tail _ (.tail _ (.tail _ (.tail _ (List.mem_append_right _ (by rw[hGe];exact .head _))))))))) hxg) rfl (b_ rfl rfl rfl rfl) rfl rfl ?_
         refine aq (i:=19) (nG rfl rfl rfl) rfl (b_ rfl rfl rfl rfl) rfl rfl ?_
         refine xq 20 (iH rfl rfl rfl) rfl ?_
         refine az ?_
         refine aA ?_
         refine W.bC rfl (fun apq=>?_) (fun apq=>?_)
         ·refine W.seq<|W.region rfl<|agb rfl rfl rfl<|pq<|W.ret<|cZ<|aY<|aY<|cZ ?_
          refine aY ?_
          exfalso
          first | exact absurd rfl ‹_› | omega | (simp at*;omega)
         ·refine W.skip<|dI<|aA<|W.region rfl<|qm rfl rfl rfl ?_
          refine ag1 rfl ?_
          refine agb rfl rfl rfl<|pq ?_
          exact⟨rfl,i+1,by omega,by omega,⟨lk rfl (show I _=I _ by congr 1),rfl,rfl,rfl,rfl,rfl,trivial⟩,.refl⟩
       ·obtain rfl:i=G.length:=by omega
        refine W.exit<|bP<|bP<|gG<|aA<|W.seq<|W.region rfl ?_
        first | refine ag2 rfl ?_ | refine agW (ady rfl rfl) rfl ?_
        refine qm rfl rfl rfl ?_
        refine agW (dM rfl rfl) rfl ?_
        refine c0 (fun h' hE hL=>aA7 _ h' _ _ _ _ ⟨lo,3⟩ 1 (m1,m2,m3) l bf.length (by omega) ok (hBM h' (hL βs _ (.tail _ (.head _))) (hL βr _ (.tail _ (.tail _ (.head _)))) (hL Fe _ (.tail _ (.tail _ (.tail _ (.head _))))) (hL βh _ (.tail _ (.tail _ (.tail _ (.tail _ (.head _)))))))) (fun v A' hv=>?_)
        obtain⟨sp,rfl,hsh,hT1,⟨xa,hxa,hTa⟩,xb,hxb,hTb⟩:=hv
        refine Ops.sb (Sb.left .refl hsh) ?_
        have hpt:∀x∈allH l,(asl x).take bf.length=x:=fun x hx=>aAO (by rw[aw6 hx];omega)
        have hll:∀s∈l,s.lo≤s.hi:=fun s hs'=>by have:=hlp s hs';omega
        have hsl:sp.lo=lo+Ju (l.map (·.lo)):=by
         have h1:=hT1 _ (aza hll)
         have h2:=ay_ hxa
         rw[hpt _ (aza hll)]at h1
         rw[hpt _ hxa]at hTa
         have h3:sp.lo≤lo+1*Ju (l.map (·.lo)):=h1.1
         have h4:sp.lo=lo+1*Ju xa:=hTa
         omega
        have hsr:sp.hi=3+Ju (l.map (·.hi)):=by
         have h1:=hT1 _ (az9 hll)
         have h2:=ay_ hxb
         rw[hpt _ (az9 hll)]at h1
         rw[hpt _ hxb]at hTb
         have h3:3+1*Ju (l.map (·.hi))≤sp.hi:=h1.2
         have h4:sp.hi=3+1*Ju xb:=hTb
         omega
        have hgm:=ay_ (aAp hwl hwin)
        have hxg:cg'[0+(G.length-1)*1+0]? =some (I (q+Ju bf)):=hPg.Bo (by
         rw[aCc _ (by omega),show G.length-1+1=bf.length by omega,List.take_length]) 0 (by decide)
        have hqq:lo≤q∧q≤3:=hq
        have aDm:cs2[0+0*2+0]? =some (I lo):=Part.Bo aBJ (i:=0) (p:=(⟨lo,3⟩:Spn)) rfl 0 (by decide)
        have aDn:cs2[0+0*2+1]? =some (I 3):=Part.Bo aBJ (i:=0) (p:=(⟨lo,3⟩:Spn)) rfl 1 (by decide)
        refine qm rfl rfl rfl<|oq (bD rfl rfl rfl) rfl wn rfl rfl<|oq (bD rfl rfl rfl) rfl wn rfl rfl ?_
        refine Ops.new (fun apR=>?_)
        first | refine Ops.jP ?_ | refine Ops.nY ?_
        refine agb rfl rfl rfl<|pq<|W.seq<|W.seq ?_
        refine W.rE (n:=24) rfl ?_
        refine xq 0 (aN rfl rfl) rfl ?_
        refine xq 1 (nG rfl rfl rfl) rfl ?_
        refine xq 2 (aN rfl rfl) rfl ?_
        refine Any.ask (d':=135) (fun aCe=>?_) (fun aCe=>?_)
        ·refine ap (i:=3) rfl rfl rfl rfl rfl rfl ?_
         refine ap (i:=4) rfl rfl rfl rfl rfl rfl ?_
         refine ap (i:=5) rfl rfl rfl rfl rfl rfl ?_
         refine ap (i:=6) rfl rfl rfl rfl rfl rfl ?_
         refine ap (i:=7) rfl rfl rfl rfl rfl rfl ?_
         refine ap (i:=8) rfl rfl rfl rfl rfl rfl ?_
         refine ap (i:=9) rfl rfl rfl rfl rfl rfl ?_
         refine ap (i:=10) rfl rfl rfl rfl rfl rfl ?_
         refine ap (i:=11) rfl rfl rfl rfl rfl rfl ?_
         refine xq 12 (dG rfl rfl rfl) rfl ?_
         refine xq 13 (aN rfl rfl) rfl ?_
         refine ap (i:=14) rfl rfl rfl rfl rfl rfl ?_
         refine ap (i:=15) rfl rfl rfl rfl rfl rfl ?_
         refine ap (i:=16) rfl rfl rfl rfl rfl rfl ?_
         refine ap (i:=17) rfl rfl rfl rfl rfl rfl ?_
         refine ap (i:=18) rfl rfl rfl rfl rfl rfl ?_
         refine ap (i:=19) rfl rfl rfl rfl rfl rfl ?_
         refine ap (i:=20) rfl rfl rfl rfl rfl rfl ?_
         refine ap (i:=21) rfl rfl rfl rfl rfl rfl ?_
         refine ap (i:=22) rfl rfl rfl rfl rfl rfl ?_
         refine xq 23 (dG rfl rfl rfl) rfl ?_
         refine az ?_
         refine aA ?_
         refine W.dW ?_
         refine W.seq<|W.region rfl<|agb rfl rfl rfl<|pq<|W.ret<|aY ?_
         exfalso
         first | exact absurd rfl ‹_› | omega | (simp at*;omega)
        ·refine aq (i:=3) (aN rfl rfl) rfl (b_ rfl rfl rfl rfl) rfl rfl ?_
         refine aq (i:=4) (aN rfl rfl) rfl (b_ rfl rfl rfl rfl) rfl rfl ?_
         refine aq (i:=5) (dM rfl rfl) rfl (b_ rfl rfl rfl rfl) rfl rfl ?_
         refine aqe (i:=6) (acL rfl rfl rfl) (show I _=I ((G.length-1:Nat):Int) by congr 1;omega) rfl (b_ rfl rfl rfl rfl) rfl rfl ?_
         first | refine aq (i:=7) (G_ rfl rfl rfl) rfl (b_ rfl rfl rfl rfl) rfl rfl ?_ | refine aq (i:=7) (o_ rfl rfl rfl) rfl (b_ rfl rfl rfl rfl) rfl rfl ?_
         refine aq (i:=8) (iQ rfl rfl (.inr (fun _ e=>e _ (.tail _ (.tail _ (.tail _ (.tail _ (.tail _ (.tail _ (List.mem_append_right _ (by rw[hGe];exact .head _)))))))))) hxg) rfl (b_ rfl rfl rfl rfl) rfl rfl ?_
         refine aq (i:=9) (ay rfl rfl) rfl (b_ rfl rfl rfl rfl) rfl rfl ?_
         refine aq (i:=10) (iQ rfl rfl) rfl (b_ rfl rfl rfl rfl) rfl rfl ?_
         refine aq (i:=11) (fO rfl rfl rfl) rfl (b_ rfl rfl rfl rfl) rfl rfl ?_
         refine xq 12 (iH rfl rfl rfl) rfl ?_
         refine xq 13 (aN rfl rfl) rfl ?_
         refine Any.ask (d':=146) (fun aBL=>?_) (fun aBL=>?_)
         ·refine ap (i:=14) rfl rfl rfl rfl rfl rfl ?_
          refine ap (i:=15) rfl rfl rfl rfl rfl rfl ?_
          refine ap (i:=16) rfl rfl rfl rfl rfl rfl ?_
          refine ap (i:=17) rfl rfl rfl rfl rfl rfl ?_
          refine ap (i:=18) rfl rfl rfl rfl rfl rfl ?_
          refine ap (i:=19) rfl rfl rfl rfl rfl rfl ?_
          refine ap (i:=20) rfl rfl rfl rfl rfl rfl ?_
          refine ap (i:=21) rfl rfl rfl rfl rfl rfl ?_
          refine ap (i:=22) rfl rfl rfl rfl rfl rfl ?_
          refine xq 23 (dG rfl rfl rfl) rfl ?_
          refine az ?_
          refine aA ?_
          refine W.dW ?_
          refine W.seq<|W.region rfl<|agb rfl rfl rfl<|pq<|W.ret<|aY ?_
          exfalso
          first | exact absurd rfl ‹_› | omega | (simp at*;omega)
         ·refine aq (i:=14) (aN rfl rfl) rfl (b_ rfl rfl rfl rfl) rfl rfl ?_
          refine aq (i:=15) (aN rfl rfl) rfl (b_ rfl rfl rfl rfl) rfl rfl ?_
          refine aq (i:=16) (dM rfl rfl) rfl (b_ rfl rfl rfl rfl) rfl rfl ?_
          refine aqe (i:=17) (acL rfl rfl rfl) (show I _=I ((G.length-1:Nat):Int) by congr 1;omega) rfl (b_ rfl rfl rfl rfl) rfl rfl ?_
          first | refine aq (i:=18) (G_ rfl rfl rfl) rfl (b_ rfl rfl rfl rfl) rfl rfl ?_ | refine aq (i:=18) (o_ rfl rfl rfl) rfl (b_ rfl rfl rfl rfl) rfl rfl ?_
          refine aq (i:=19) (iQ rfl rfl (.inr (fun _ e=>e _ (.tail _ (.tail _ (.tail _ (.tail _ (.tail _ (.tail _ (List.mem_append_right _ (by rw[hGe];exact .head _)))))))))) hxg) rfl (b_ rfl rfl rfl rfl) rfl rfl ?_
          refine aq (i:=20) (ay rfl rfl) rfl (b_ rfl rfl rfl rfl) rfl rfl ?_
          refine aq (i:=21) (iQ rfl rfl) rfl (b_ rfl rfl rfl rfl) rfl rfl ?_
          refine aq (i:=22) (rC rfl rfl rfl) rfl (b_ rfl rfl rfl rfl) rfl rfl ?_
          refine xq 23 (iH rfl rfl rfl) rfl ?_
          refine az ?_
          refine aA ?_
          refine W.bC rfl (fun c156=>?_) (fun c156=>?_)
          ·refine W.seq<|W.region rfl<|agb rfl rfl rfl<|pq<|W.ret<|aY ?_
           exfalso
           first | exact absurd rfl ‹_› | omega | (simp at*;omega)
          ·refine W.skip<|aA<|W.seq ?_
           refine W.rE (n:=15) rfl ?_
           refine xq 0 (aN rfl rfl) rfl ?_
           refine xq 1 (ay rfl rfl) rfl ?_
           refine xq 2 (iQ rfl rfl) rfl ?_
           first | refine xq 3 (G_ rfl rfl rfl) rfl ?_ | refine xq 3 (o_ rfl rfl rfl) rfl ?_
           refine xq 4 (ay rfl rfl) rfl ?_
           refine xq 5 (iQ rfl rfl) rfl ?_
           refine xq 6 (ay rfl rfl) rfl ?_
           refine xq 7 (iQ rfl rfl) rfl ?_
           refine ae (i:=8) rfl an rfl rfl (lQ (args:=[_,_]) rfl rfl (fun h' hE hL=>Uu _ h' l _ true (hBM h' (hL βs _ (.tail _ (.tail _ (.head _)))) (hL βr _ (.tail _ (.tail _ (.tail _ (.head _))))) (hL Fe _ (.tail _ (.tail _ (.tail _ (.tail _ (.head _)))))) (hL βh _ (.tail _ (.tail _ (.tail _ (.tail _ (.tail _ (.head _)))))))).hm (by omega)) (fun v A' hv=>?_))
           refine⟨.inr (Keeps.app Keeps.refl),?_⟩
           obtain⟨Se,hSe,hsb⟩:=hv
           refine Any.sb (hsb.app .refl) ?_
           change Os dL fH v (l.map fun s=>s.lo) Se at hSe
           refine ae (i:=9) rfl an rfl rfl (lQ (args:=[_,_,_]) rfl rfl (fun h' hE hL=>aah _ h' psT _ lo (l.map fun s=>s.lo) _ Eg zg (hP3.sl fun b o hb=>hL b o (List.mem_append_right _ (.tail _ (.tail _ (.tail _ (.tail _ (.tail _ (.tail _ (List.mem_append_left _ (List.mem_append_left _ hb)))))))))) (hSe.sl fun b o hb=>hL b o (List.mem_append_left _ hb)) (hE.1 _ _ hg)) (fun v A' hv=>?_))
           refine⟨.inr (Keeps.app (Keeps.app Keeps.refl)),?_⟩
           rw[aA9 (fun a ha=>by obtain⟨s,hs',rfl⟩:=List.mem_map.1 ha;have:=hlp s hs';omega) (by omega) (by rw[List.length_map];omega)]at hv
           obtain⟨w1,S1,rfl,hG1,hsb⟩:=hv
           refine Any.sb (hsb.app .refl) ?_
           obtain⟨g1,hg1⟩:∃g,g=zs (aw8 lo.toNat (l.map fun s=>s.lo)):=⟨_,rfl⟩
           have aCZ:g1.length=bf.length:=by rw[hg1,kT,ayn,List.length_map];omega
           have aC0:g1[g1.length-1]? =some sp.lo:=by
            rw[aCZ,hg1,azc (fun a ha=>by obtain⟨s,hs',rfl⟩:=List.mem_map.1 ha;have:=hlp s hs';omega) (by rw[List.length_map];omega)]
            rw[show bf.length-1+1=(l.map fun s=>s.lo).length by rw[List.length_map];omega,List.take_length,hsl]
            congr 1;omega
           change Os dL fH w1 (zs (aw8 lo.toNat (l.map fun s=>s.lo))) S1 at hG1
           rw[←hg1]at hG1
           clear hg1
           obtain⟨g1a,g1c,rfl⟩:=hG1.dA
           obtain⟨β1,c1,J1,rfl,rfl,-,-,-,hP1,hJ1⟩:=hG1.open (by omega)
           have hx1:c1[0+(g1.length-1)*1+0]? =some (I sp.lo):=hP1.Bo aC0 0 (by decide)
           refine xq 10 (aN rfl rfl) rfl ?_
           refine xq 11 (bD rfl rfl rfl) rfl ?_
           refine xq 12 (bD rfl rfl rfl) rfl ?_
           refine xq 13 (jS rfl rfl) rfl ?_
           refine xq 14 (jS rfl rfl) rfl ?_
           refine az ?_
           refine aA ?_
           refine W.sb (F':=(apR,.cells #[I sp.lo,I sp.hi] eG (0,0))::(wC,.cells (awE (.slice (some ⟨βs,0,none⟩) 1 caps) (.slice (some ⟨βr,0,none⟩) 1 azt) (.slice (some ⟨Fe,0,none⟩) 3 azu) (.slice (some ⟨βh,0,none⟩) n azl)) zf (0,0))::(βs,.cells cs2 eG (0,0))::(βr,.cells cr2 dL (0,0))::(Fe,.cells cm dL (0,0))::(βh,.cells ch2 eG (0,0))::(((S++Y)++SG)++((β1,.cells c1 dL (0,0))::J1))) (Sb.trans (.dF (fr5 (p:=[_,_,_,_,_,_]) (Y:=((S++Y)++SG)) (G:=(β1,.cells c1 dL (0,0))::J1))) (.app .refl (Sb.left .refl hSe.shut))) ?_
           refine W.seq ?_
           refine W.rE (n:=15) rfl ?_
           refine xq 0 (aN rfl rfl) rfl ?_
           refine xq 1 (ay rfl rfl) rfl ?_
           refine xq 2 (iQ rfl rfl) rfl ?_
           first | refine xq 3 (G_ rfl rfl rfl) rfl ?_ | refine xq 3 (o_ rfl rfl rfl) rfl ?_
           refine xq 4 (ay rfl rfl) rfl ?_
           refine xq 5 (iQ rfl rfl) rfl ?_
           refine xq 6 (ay rfl rfl) rfl ?_
           refine xq 7 (iQ rfl rfl) rfl ?_
           refine ae (i:=8) rfl an rfl rfl (lQ (args:=[_,_]) rfl rfl (fun h' hE hL=>Uu _ h' l _ false (hBM h' (hL βs _ (.tail _ (.tail _ (.head _)))) (hL βr _ (.tail _ (.tail _ (.tail _ (.head _))))) (hL Fe _ (.tail _ (.tail _ (.tail _ (.tail _ (.head _)))))) (hL βh _ (.tail _ (.tail _ (.tail _ (.tail _ (.tail _ (.head _)))))))).hm (by omega)) (fun v A' hv=>?_))
           refine⟨.inr (Keeps.app Keeps.refl),?_⟩
           obtain⟨Se,hSe,hsb⟩:=hv
           refine Any.sb (hsb.app .refl) ?_
           change Os dL fH v (l.map fun s=>s.hi) Se at hSe
           refine ae (i:=9) rfl an rfl rfl (lQ (args:=[_,_,_]) rfl rfl (fun h' hE hL=>aah _ h' psT _ 3 (l.map fun s=>s.hi) _ Eg zg (hP3.sl fun b o hb=>hL b o (List.mem_append_right _ (.tail _ (.tail _ (.tail _ (.tail _ (.tail _ (.tail _ (List.mem_append_left _ (List.mem_append_left _ (List.mem_append_left _ hb))))))))))) (hSe.sl fun b o hb=>hL b o (List.mem_append_left _ hb)) (hE.1 _ _ hg)) (fun v A' hv=>?_))
           refine⟨.inr (Keeps.app (Keeps.app Keeps.refl)),?_⟩
           rw[aA9 (fun a ha=>by obtain⟨s,hs',rfl⟩:=List.mem_map.1 ha;have:=hlp s hs';omega) (by omega) (by rw[List.length_map];omega)]at hv
           obtain⟨w2,S2,rfl,hG2,hsb⟩:=hv
           refine Any.sb (hsb.app .refl) ?_
           obtain⟨g2,hg2⟩:∃g,g=zs (aw8 (3:Int).toNat (l.map fun s=>s.hi)):=⟨_,rfl⟩
           have aC1:g2.length=bf.length:=by rw[hg2,kT,ayn,List.length_map];omega
           have aC2:g2[g2.length-1]? =some sp.hi:=by
            rw[aC1,hg2,azc (fun a ha=>by obtain⟨s,hs',rfl⟩:=List.mem_map.1 ha;have:=hlp s hs';omega) (by rw[List.length_map];omega)]
            rw[show bf.length-1+1=(l.map fun s=>s.hi).length by rw[List.length_map];omega,List.take_length,hsr]
            rfl
           change Os dL fH w2 (zs (aw8 (3:Int).toNat (l.map fun s=>s.hi))) S2 at hG2
           rw[←hg2]at hG2
           clear hg2
           obtain⟨g2a,g2c,rfl⟩:=hG2.dA
           obtain⟨yR,c2,J2,rfl,rfl,-,-,-,hP2,hJ2⟩:=hG2.open (by omega)
           have hx2:c2[0+(g2.length-1)*1+0]? =some (I sp.hi):=hP2.Bo aC2 0 (by decide)
           have ayB:Shut S:=hP3.shut
           have hsh2:Shut SG:=hG.shut
           have aDo:Shut ((β1,.cells c1 dL (0,0))::J1):=hG1.shut
           have aDp:Shut ((yR,.cells c2 dL (0,0))::J2):=hG2.shut
           have aDq:Shut Y:=by rw[hY];exact(hQ.shut.app hW.shut).app (hO.shut.app hB.2.1)
           refine xq 10 (aN rfl rfl) rfl ?_
           refine xq 11 (bD rfl rfl rfl) rfl ?_
           refine xq 12 (bD rfl rfl rfl) rfl ?_
           refine xq 13 (jS rfl rfl) rfl ?_
           refine xq 14 (jS rfl rfl) rfl ?_
           refine az ?_
           refine aA ?_
           refine W.sb (F':=(apR,.cells #[I sp.lo,I sp.hi] eG (0,0))::(wC,.cells (awE (.slice (some ⟨βs,0,none⟩) 1 caps) (.slice (some ⟨βr,0,none⟩) 1 azt) (.slice (some ⟨Fe,0,none⟩) 3 azu) (.slice (some ⟨βh,0,none⟩) n azl)) zf (0,0))::(βs,.cells cs2 eG (0,0))::(βr,.cells cr2 dL (0,0))::(Fe,.cells cm dL (0,0))::(βh,.cells ch2 eG (0,0))::((((S++Y)++SG)++((β1,.cells c1 dL (0,0))::J1))++((yR,.cells c2 dL (0,0))::J2))) (Sb.trans (.dF (fr5 (p:=[_,_,_,_,_,_]) (Y:=((S++Y)++SG)++((β1,.cells c1 dL (0,0))::J1)) (G:=((yR,.cells c2 dL (0,0))::J2)))) (.app .refl (Sb.left .refl hSe.shut))) ?_
           refine W.seq ?_
           refine W.rE (n:=46) rfl ?_
           refine xq 0 (aN rfl rfl) rfl ?_
           refine xq 1 (nD rfl rfl rfl) rfl ?_
           refine xq 2 (aN rfl rfl) rfl ?_
           refine Any.ask (d':=185) (fun aCf=>?_) (fun aCf=>?_)
           ·refine aq (i:=3) (aN rfl rfl) rfl (b_ rfl rfl rfl rfl) rfl rfl ?_
            refine aq (i:=4) (nD rfl rfl rfl) rfl (b_ rfl rfl rfl rfl) rfl rfl ?_
            refine xq 5 (dG rfl rfl rfl) rfl ?_
            refine xq 6 (aN rfl rfl) rfl ?_
            refine Any.ask (d':=189) (fun aCg=>?_) (fun aCg=>?_)
            ·refine aq (i:=7) (aN rfl rfl) rfl (b_ rfl rfl rfl rfl) rfl rfl ?_
             refine aq (i:=8) (dM rfl rfl) rfl (b_ rfl rfl rfl rfl) rfl rfl ?_
             refine aq (i:=9) (aN rfl rfl) rfl (b_ rfl rfl rfl rfl) rfl rfl ?_
             refine aq (i:=10) (dM rfl rfl) rfl (b_ rfl rfl rfl rfl) rfl rfl ?_
             refine aq (i:=11) (nD rfl rfl rfl) rfl (b_ rfl rfl rfl rfl) rfl rfl ?_
             refine xq 12 (dG rfl rfl rfl) rfl ?_
             refine xq 13 (aN rfl rfl) rfl ?_
             refine Any.ask (d':=196) (fun aBN=>?_) (fun aBN=>?_)
             ·refine aq (i:=14) (aN rfl rfl) rfl (b_ rfl rfl rfl rfl) rfl rfl ?_
              refine aq (i:=15) (dM rfl rfl) rfl (b_ rfl rfl rfl rfl) rfl rfl ?_
              refine aq (i:=16) (aN rfl rfl) rfl (b_ rfl rfl rfl rfl) rfl rfl ?_
              refine aq (i:=17) (dM rfl rfl) rfl (b_ rfl rfl rfl rfl) rfl rfl ?_
              refine aq (i:=18) (nD rfl rfl rfl) rfl (b_ rfl rfl rfl rfl) rfl rfl ?_
              refine xq 19 (dG rfl rfl rfl) rfl ?_
              refine xq 20 (aN rfl rfl) rfl ?_
              refine Any.ask (d':=203) (fun aBO=>?_) (fun aBO=>?_)
              ·refine aq (i:=21) (aN rfl rfl) rfl (b_ rfl rfl rfl rfl) rfl rfl ?_
               refine aq (i:=22) (aN rfl rfl) rfl (b_ rfl rfl rfl rfl) rfl rfl ?_
               refine aq (i:=23) (dM rfl rfl) rfl (b_ rfl rfl rfl rfl) rfl rfl ?_
               refine aqe (i:=24) (acL rfl rfl rfl) (show I _=I ((g1.length-1:Nat):Int) by congr 1;omega) rfl (b_ rfl rfl rfl rfl) rfl rfl ?_
               first | refine aq (i:=25) (G_ rfl rfl rfl) rfl (b_ rfl rfl rfl rfl) rfl rfl ?_ | refine aq (i:=25) (o_ rfl rfl rfl) rfl (b_ rfl rfl rfl rfl) rfl rfl ?_
               refine aq (i:=26) (iQ rfl rfl (.inr (fun _ e=>e _ (.tail _ (.tail _ (.tail _ (.tail _ (.tail _ (.tail _ (List.mem_append_left _ (List.mem_append_right _ (.head _))))))))))) hx1) rfl (b_ rfl rfl rfl rfl) rfl rfl ?_
               refine aq (i:=27) (ay rfl rfl) rfl (b_ rfl rfl rfl rfl) rfl rfl ?_
               refine aq (i:=28) (iQ rfl rfl) rfl (b_ rfl rfl rfl rfl) rfl rfl ?_
               refine aq (i:=29) (nD rfl rfl rfl) rfl (b_ rfl rfl rfl rfl) rfl rfl ?_
               refine xq 30 (dG rfl rfl rfl) rfl ?_
               refine xq 31 (aN rfl rfl) rfl ?_
               refine Any.ask (d':=214) (fun aBP=>?_) (fun aBP=>?_)
               ·refine aq (i:=32) (aN rfl rfl) rfl (b_ rfl rfl rfl rfl) rfl rfl ?_
                refine aq (i:=33) (aN rfl rfl) rfl (b_ rfl rfl rfl rfl) rfl rfl ?_
                refine aq (i:=34) (dM rfl rfl) rfl (b_ rfl rfl rfl rfl) rfl rfl ?_
                refine aqe (i:=35) (acL rfl rfl rfl) (show I _=I ((g2.length-1:Nat):Int) by congr 1;omega) rfl (b_ rfl rfl rfl rfl) rfl rfl ?_
                first | refine aq (i:=36) (G_ rfl rfl rfl) rfl (b_ rfl rfl rfl rfl) rfl rfl ?_ | refine aq (i:=36) (o_ rfl rfl rfl) rfl (b_ rfl rfl rfl rfl) rfl rfl ?_
                refine aq (i:=37) (iQ rfl rfl (.inr (fun _ e=>e _ (.tail _ (.tail _ (.tail _ (.tail _ (.tail _ (.tail _ (List.mem_append_right _ (.head _)))))))))) hx2) rfl (b_ rfl rfl rfl rfl) rfl rfl ?_
                refine aq (i:=38) (ay rfl rfl) rfl (b_ rfl rfl rfl rfl) rfl rfl ?_
                refine aq (i:=39) (iQ rfl rfl) rfl (b_ rfl rfl rfl rfl) rfl rfl ?_
                refine aq (i:=40) (nD rfl rfl rfl) rfl (b_ rfl rfl rfl rfl) rfl rfl ?_
                refine xq 41 (dG rfl rfl rfl) rfl ?_
                refine xq 42 (aN rfl rfl) rfl ?_
                refine Any.ask (d':=225) (fun aBQ=>?_) (fun aBQ=>?_)
                ·refine Va (i:=43) (fun h' hE hL=>aA_ _ h' Eg zg (hE.1 _ _ hg)) ?_
                 refine xq 44 (dG rfl rfl rfl) rfl ?_
                 refine xq 45 (jS rfl rfl) rfl ?_
                 refine az ?_
                 refine aA<|W.ret ?_
                 first
                  | exact absurd rfl ‹¬_›
                  | (exfalso;omega)
                  | exact lvq rfl
                ·refine ap (i:=43) rfl rfl rfl rfl rfl rfl ?_
                 refine xq 44 (iH rfl rfl rfl) rfl ?_
                 refine xq 45 (jS rfl rfl) rfl ?_
                 refine az ?_
                 refine aA<|W.ret ?_
                 first
                  | exact absurd rfl ‹¬_›
                  | (exfalso;omega)
                  | exact lvq rfl
               ·refine ap (i:=32) rfl rfl rfl rfl rfl rfl ?_
                refine ap (i:=33) rfl rfl rfl rfl rfl rfl ?_
                refine ap (i:=34) rfl rfl rfl rfl rfl rfl ?_
                refine ap (i:=35) rfl rfl rfl rfl rfl rfl ?_
                refine ap (i:=36) rfl rfl rfl rfl rfl rfl ?_
                refine ap (i:=37) rfl rfl rfl rfl rfl rfl ?_
                refine ap (i:=38) rfl rfl rfl rfl rfl rfl ?_
                refine ap (i:=39) rfl rfl rfl rfl rfl rfl ?_
                refine ap (i:=40) rfl rfl rfl rfl rfl rfl ?_
                refine xq 41 (iH rfl rfl rfl) rfl ?_
                refine xq 42 (aN rfl rfl) rfl ?_
                refine ap (i:=43) rfl rfl rfl rfl rfl rfl ?_
                refine xq 44 (iH rfl rfl rfl) rfl ?_
                refine xq 45 (jS rfl rfl) rfl ?_
                refine az ?_
                refine aA<|W.ret ?_
                first
                 | exact absurd rfl ‹¬_›
                 | (exfalso;omega)
                 | exact lvq rfl
              ·refine ap (i:=21) rfl rfl rfl rfl rfl rfl ?_
               refine ap (i:=22) rfl rfl rfl rfl rfl rfl ?_
               refine ap (i:=23) rfl rfl rfl rfl rfl rfl ?_
               refine ap (i:=24) rfl rfl rfl rfl rfl rfl ?_
               refine ap (i:=25) rfl rfl rfl rfl rfl rfl ?_
               refine ap (i:=26) rfl rfl rfl rfl rfl rfl ?_
               refine ap (i:=27) rfl rfl rfl rfl rfl rfl ?_
               refine ap (i:=28) rfl rfl rfl rfl rfl rfl ?_
               refine ap (i:=29) rfl rfl rfl rfl rfl rfl ?_
               refine xq 30 (iH rfl rfl rfl) rfl ?_
               refine xq 31 (aN rfl rfl) rfl ?_
               refine ap (i:=32) rfl rfl rfl rfl rfl rfl ?_
               refine ap (i:=33) rfl rfl rfl rfl rfl rfl ?_
               refine ap (i:=34) rfl rfl rfl rfl rfl rfl ?_
               refine ap (i:=35) rfl rfl rfl rfl rfl rfl ?_
               refine ap (i:=36) rfl rfl rfl rfl rfl rfl ?_
               refine ap (i:=37) rfl rfl rfl rfl rfl rfl ?_
               refine ap (i:=38) rfl rfl rfl rfl rfl rfl ?_
               refine ap (i:=39) rfl rfl rfl rfl rfl rfl ?_
               refine ap (i:=40) rfl rfl rfl rfl rfl rfl ?_
               refine xq 41 (iH rfl rfl rfl) rfl ?_
               refine xq 42 (aN rfl rfl) rfl ?_
               refine ap (i:=43) rfl rfl rfl rfl rfl rfl ?_
               refine xq 44 (iH rfl rfl rfl) rfl ?_
               refine xq 45 (jS rfl rfl) rfl ?_
               refine az ?_
               refine aA<|W.ret ?_
               first
                | exact absurd rfl ‹¬_›
                | (exfalso;omega)
                | exact lvq rfl
             ·refine ap (i:=14) rfl rfl rfl rfl rfl rfl ?_
              refine ap (i:=15) rfl rfl rfl rfl rfl rfl ?_
              refine ap (i:=16) rfl rfl rfl rfl rfl rfl ?_
              refine ap (i:=17) rfl rfl rfl rfl rfl rfl ?_
              refine ap (i:=18) rfl rfl rfl rfl rfl rfl ?_
              refine xq 19 (iH rfl rfl rfl) rfl ?_
              refine xq 20 (aN rfl rfl) rfl ?_
              refine ap (i:=21) rfl rfl rfl rfl rfl rfl ?_
              refine ap (i:=22) rfl rfl rfl rfl rfl rfl ?_
              refine ap (i:=23) rfl rfl rfl rfl rfl rfl ?_
              refine ap (i:=24) rfl rfl rfl rfl rfl rfl ?_
              refine ap (i:=25) rfl rfl rfl rfl rfl rfl ?_
              refine ap (i:=26) rfl rfl rfl rfl rfl rfl ?_
              refine ap (i:=27) rfl rfl rfl rfl rfl rfl ?_
              refine ap (i:=28) rfl rfl rfl rfl rfl rfl ?_
              refine ap (i:=29) rfl rfl rfl rfl rfl rfl ?_
              refine xq 30 (iH rfl rfl rfl) rfl ?_
              refine xq 31 (aN rfl rfl) rfl ?_
              refine ap (i:=32) rfl rfl rfl rfl rfl rfl ?_
              refine ap (i:=33) rfl rfl rfl rfl rfl rfl ?_
              refine ap (i:=34) rfl rfl rfl rfl rfl rfl ?_
              refine ap (i:=35) rfl rfl rfl rfl rfl rfl ?_
              refine ap (i:=36) rfl rfl rfl rfl rfl rfl ?_
              refine ap (i:=37) rfl rfl rfl rfl rfl rfl ?_
              refine ap (i:=38) rfl rfl rfl rfl rfl rfl ?_
              refine ap (i:=39) rfl rfl rfl rfl rfl rfl ?_
              refine ap (i:=40) rfl rfl rfl rfl rfl rfl ?_
              refine xq 41 (iH rfl rfl rfl) rfl ?_
              refine xq 42 (aN rfl rfl) rfl ?_
              refine ap (i:=43) rfl rfl rfl rfl rfl rfl ?_
              refine xq 44 (iH rfl rfl rfl) rfl ?_
              refine xq 45 (jS rfl rfl) rfl ?_
              refine az ?_
              refine aA<|W.ret ?_
              first
               | exact absurd rfl ‹¬_›
               | (exfalso;omega)
               | exact lvq rfl
            ·refine ap (i:=7) rfl rfl rfl rfl rfl rfl ?_
             refine ap (i:=8) rfl rfl rfl rfl rfl rfl ?_
             refine ap (i:=9) rfl rfl rfl rfl rfl rfl ?_
             refine ap (i:=10) rfl rfl rfl rfl rfl rfl ?_
             refine ap (i:=11) rfl rfl rfl rfl rfl rfl ?_
             refine xq 12 (iH rfl rfl rfl) rfl ?_
             refine xq 13 (aN rfl rfl) rfl ?_
             refine ap (i:=14) rfl rfl rfl rfl rfl rfl ?_
             refine ap (i:=15) rfl rfl rfl rfl rfl rfl ?_
             refine ap (i:=16) rfl rfl rfl rfl rfl rfl ?_
             refine ap (i:=17) rfl rfl rfl rfl rfl rfl ?_
             refine ap (i:=18) rfl rfl rfl rfl rfl rfl ?_
             refine xq 19 (iH rfl rfl rfl) rfl ?_
             refine xq 20 (aN rfl rfl) rfl ?_
             refine ap (i:=21) rfl rfl rfl rfl rfl rfl ?_
             refine ap (i:=22) rfl rfl rfl rfl rfl rfl ?_
             refine ap (i:=23) rfl rfl rfl rfl rfl rfl ?_
             refine ap (i:=24) rfl rfl rfl rfl rfl rfl ?_
             refine ap (i:=25) rfl rfl rfl rfl rfl rfl ?_
             refine ap (i:=26) rfl rfl rfl rfl rfl rfl ?_
             refine ap (i:=27) rfl rfl rfl rfl rfl rfl ?_
             refine ap (i:=28) rfl rfl rfl rfl rfl rfl ?_
             refine ap (i:=29) rfl rfl rfl rfl rfl rfl ?_
             refine xq 30 (iH rfl rfl rfl) rfl ?_
             refine xq 31 (aN rfl rfl) rfl ?_
             refine ap (i:=32) rfl rfl rfl rfl rfl rfl ?_
             refine ap (i:=33) rfl rfl rfl rfl rfl rfl ?_
             refine ap (i:=34) rfl rfl rfl rfl rfl rfl ?_
             refine ap (i:=35) rfl rfl rfl rfl rfl rfl ?_
             refine ap (i:=36) rfl rfl rfl rfl rfl rfl ?_
             refine ap (i:=37) rfl rfl rfl rfl rfl rfl ?_
             refine ap (i:=38) rfl rfl rfl rfl rfl rfl ?_
             refine ap (i:=39) rfl rfl rfl rfl rfl rfl ?_
             refine ap (i:=40) rfl rfl rfl rfl rfl rfl ?_
             refine xq 41 (iH rfl rfl rfl) rfl ?_
             refine xq 42 (aN rfl rfl) rfl ?_
             refine ap (i:=43) rfl rfl rfl rfl rfl rfl ?_
             refine xq 44 (iH rfl rfl rfl) rfl ?_
             refine xq 45 (jS rfl rfl) rfl ?_
             refine az ?_
             refine aA<|W.ret ?_
             first
              | exact absurd rfl ‹¬_›
              | (exfalso;omega)
              | exact lvq rfl
           ·refine ap (i:=3) rfl rfl rfl rfl rfl rfl ?_
            refine ap (i:=4) rfl rfl rfl rfl rfl rfl ?_
            refine xq 5 (iH rfl rfl rfl) rfl ?_
            refine xq 6 (aN rfl rfl) rfl ?_
            refine ap (i:=7) rfl rfl rfl rfl rfl rfl ?_
            refine ap (i:=8) rfl rfl rfl rfl rfl rfl ?_
            refine ap (i:=9) rfl rfl rfl rfl rfl rfl ?_
            refine ap (i:=10) rfl rfl rfl rfl rfl rfl ?_
            refine ap (i:=11) rfl rfl rfl rfl rfl rfl ?_
            refine xq 12 (iH rfl rfl rfl) rfl ?_
            refine xq 13 (aN rfl rfl) rfl ?_
            refine ap (i:=14) rfl rfl rfl rfl rfl rfl ?_
            refine ap (i:=15) rfl rfl rfl rfl rfl rfl ?_
            refine ap (i:=16) rfl rfl rfl rfl rfl rfl ?_
            refine ap (i:=17) rfl rfl rfl rfl rfl rfl ?_
            refine ap (i:=18) rfl rfl rfl rfl rfl rfl ?_
            refine xq 19 (iH rfl rfl rfl) rfl ?_
            refine xq 20 (aN rfl rfl) rfl ?_
            refine ap (i:=21) rfl rfl rfl rfl rfl rfl ?_
            refine ap (i:=22) rfl rfl rfl rfl rfl rfl ?_
            refine ap (i:=23) rfl rfl rfl rfl rfl rfl ?_
            refine ap (i:=24) rfl rfl rfl rfl rfl rfl ?_
            refine ap (i:=25) rfl rfl rfl rfl rfl rfl ?_
            refine ap (i:=26) rfl rfl rfl rfl rfl rfl ?_
            refine ap (i:=27) rfl rfl rfl rfl rfl rfl ?_
            refine ap (i:=28) rfl rfl rfl rfl rfl rfl ?_
            refine ap (i:=29) rfl rfl rfl rfl rfl rfl ?_
            refine xq 30 (iH rfl rfl rfl) rfl ?_
            refine xq 31 (aN rfl rfl) rfl ?_
            refine ap (i:=32) rfl rfl rfl rfl rfl rfl ?_
            refine ap (i:=33) rfl rfl rfl rfl rfl rfl ?_
            refine ap (i:=34) rfl rfl rfl rfl rfl rfl ?_
            refine ap (i:=35) rfl rfl rfl rfl rfl rfl ?_
            refine ap (i:=36) rfl rfl rfl rfl rfl rfl ?_
            refine ap (i:=37) rfl rfl rfl rfl rfl rfl ?_
            refine ap (i:=38) rfl rfl rfl rfl rfl rfl ?_
            refine ap (i:=39) rfl rfl rfl rfl rfl rfl ?_
            refine ap (i:=40) rfl rfl rfl rfl rfl rfl ?_
            refine xq 41 (iH rfl rfl rfl) rfl ?_
            refine xq 42 (aN rfl rfl) rfl ?_
            refine ap (i:=43) rfl rfl rfl rfl rfl rfl ?_
            refine xq 44 (iH rfl rfl rfl) rfl ?_
            refine xq 45 (jS rfl rfl) rfl ?_
            refine az ?_
            refine aA<|W.ret ?_
            first
             | exact absurd rfl ‹¬_›
             | (exfalso;omega)
             | exact lvq rfl
end Go.aS

/- From a law that answers true to its card, time passing meanwhile: the parts that all laws of this seat share. Conditions: as the cards say; over the given program. -/
namespace Go.aS
open Go.Proofs.YtamjhbmelpkgpaaDoor
set_option maxRecDepth 100000
set_option maxHeartbeats 4000000
theorem afH:ownKnob prog.godebug=none:=by kernel_rfl
theorem YR:laidOutB prog=true:=by kernel_rfl
theorem et0:prog.globalNamed "errors.errorType" =some 0:=by kernel_rfl
abbrev acf:String:=match(Rows.laid_errors_errorType:DataW Unit)with
 | .iface s _=>s
 | _=> ""
theorem rt0:(prog.cutTypes.find? (·.1==acf)).map (·.2)=some qI:=by kernel_rfl
theorem ad6:prog.types.size=175:=by kernel_rfl
theorem aaG:((List.range 175).filter fun t=>prog.rowNamed t [101,114,114,111,114])=[qM]:=by kernel_rfl
theorem EX:prog.underlying nS=some (.slice dL):=by kernel_rfl
theorem VX:prog.underlying dL=some (.int .i64):=by kernel_rfl
theorem SS:prog.underlying RS=some .bool:=by kernel_rfl
theorem VY:prog.cellsOf dL=1:=by kernel_rfl

abbrev J9:List (String×DataW Unit):=[("errors.errorType",Rows.laid_errors_errorType)]
theorem aaH{W:World}(h:laidMetH prog J9 W):∃E z,W.heap[0]? =some (.cells #[Ur qM] E z):=by
 have h':laidMet prog [] W∧handlesMet prog J9 W:=h
 obtain⟨name,u,ty,e1,e2,e3,e4,e5⟩:=h'.2 _ (List.mem_singleton.2 rfl)
 have en:name=[101,114,114,111,114]:=(Option.some.inj e1).symm
 subst en
 obtain rfl:=Option.some.inj (rt0.symm.trans e2)
 have hm:ty∈(List.range 175).filter fun t=>prog.rowNamed t [101,114,114,111,114]:=List.mem_filter.2 ⟨List.mem_range.2 (by rw[←ad6];exact e3),e4⟩
 rw[aaG]at hm
 obtain rfl:=List.mem_singleton.1 hm
 simp only[World.var?]at e5
 rw[et0,Option.bind_some]at e5
 split at e5
 ·rename_i cs E z hb
  obtain rfl:=Option.some.inj e5
  exact⟨E,z,hb⟩
 ·cases e5

noncomputable def laidWorld(os:Go.Os):World:=
 let w0:=World.holding prog os ⟨#[], #[],[]⟩
 {w0 with heap:=w0.heap.modify 0 fun
   | .cells _ t frozen=>.cells #[Ur qM] t frozen
   | o=>o}
theorem laidWorld_met(os:Go.Os)(args:Array Value):laidMetH prog J9 ((laidWorld os).forCall (fun _ _=>0) ⟨#[],args,[]⟩).memory:=
 laidMetH_of_parts (laidMet_nil _ _) (by kernel_rfl)

theorem Ld{P:Program}{l:List (String×DataW Unit)}{w w':World}(hh:w.heap=w'.heap)(h:laidMetH P l w):laidMetH P l w':=h.of_heap hh

section
open Go.ChangeShapes Go.WideShapes Go.RowKit
theorem aCh{s:ChangeSpec}{f:FuncId}{fn:Func}(os:Go.Os)(started:os.Started)(H:Type)(enc:TypeId×Value→H)(hfn:prog.funcs[f]? =some fn)(hinit:prog.inits.idxOf? f=none)(hp:fn.params.toList=[nS])(hpa:fn.params= #[nS])(hr:fn.resultTypes.toList=[RS])(hrs:fn.resultTypes.size=1)(hv:s.vars=[])
  (hs:∀d,s.fn H [d]={results:=[.lit (.bool true)],args:=[d]})
  (
   witness:∃(w:World) (tape:Tape) (i:Input),w.os=os∧(w.forCall tape i).Shaped prog∧i.vars=[]∧Input.okWide prog (w.forCall tape i) .any w.heap.size f i∧
   ((s.pre enc prog fn [] false (w.forCall tape i).memory i.args∧laidMetH prog J9 (w.forCall tape i).memory)∧sizedMet enc prog fn (OpenSpec.ofChange s) false (w.forCall tape i).memory i.args)∧({}:Assume).holds prog (lone (Frame.enter prog f i.args .normal) [] (w.forCall tape i)))
  (T:∀(main:Side) (_:main.b=true) (h:Hp) (nums:List Int) (lv:Value) (Eg:TypeId) (zg:Nat×Nat) (_:Sl h fH lv nums) (_:h 0=some (.cells #[Ur qM] Eg zg)),QE prog main f #[lv] h (.bool true)):
  ReturnsInHanded {} Go.Proofs.Tryd.checked os f .any (fun w args=>(s.pre enc prog fn [] false w args∧laidMetH prog J9 w)∧sizedMet enc prog fn (OpenSpec.ofChange s) false w args) (s.post enc prog fn false true false false):=by
 refine axb (C:=Go.Proofs.Tryd.checked) afH started witness ?_
 intro w tape i _ _ _ hok hpre _
 obtain⟨_,_,_,fn',hfn',_,_,_,_,hval0⟩:=hok
 have e:fn'=fn:=Option.some.inj (hfn'.symm.trans hfn)
 subst e
 obtain⟨⟨⟨ds,gs,before,hw,-⟩,hx⟩,-⟩:=hpre
 have hW:=DataW.Whole.of_heap (w':=w.forCall tape i) (by rfl) hw
 have hL:laidMetH prog J9 (w.forCall tape i):=Ld (by rfl) hx
 generalize w.forCall tape i=W at*
 have hval:∀(j:Nat) t v,fn'.params[j]? =some t→i.args[j]? =some v→Value.okWide prog W .any w.heap.size t v:=hval0
 have hW':=hW
 obtain⟨p,q,hA0,hV,rfl,_,_⟩:=hW
 have hA:DataW.TrodAll enc prog W 0 (fun _=>true) true fn'.params.toList i.args.toList ds p:=hA0
 rw[hp]at hA
 rw[hpa]at hval
 obtain⟨v0,d0,ha,rfl,h0⟩:=trodAll_one hA
 have hargs:i.args= #[v0]:=by simpa using ha
 rw[hargs]at hval hW'⊢
 rw[hv]at hV
 obtain⟨rfl,rfl⟩:=trodVars_none hV
 simp only[List.append_nil]at hW'
 have hlt:∀x∈p,x.block<W.heap.size:=fun x hx=>by simpa using hW'.lt x hx
 obtain⟨a0,len,cap,rfl⟩:=okWide_slice EX (hval 0 nS v0 rfl rfl)
 obtain⟨E,z,hg⟩:=aaH hL
 have hsl:∃nums,Sl (atStart W) fH (.slice a0 len cap) nums:=by
  obtain⟨fuel,hf⟩:=h0
  rcases open_ints EX VX VY hf with⟨hcs,_⟩ | ⟨a,len',cap',zs,hcs,_,hl,hm,hz,_,hcell,_⟩
  ·simp[Value.cells]at hcs
   obtain⟨rfl,rfl,rfl⟩:=hcs
   exact⟨[],.nil⟩
  ·simp[Value.cells]at hcs
   obtain⟨rfl,rfl,rfl⟩:=hcs
   simp only[if_true]at hz
   exact⟨zs.take len,Sl.atStart (by omega) hcell⟩
 obtain⟨nums,hsl⟩:=hsl
 have hgs:atStart W 0=some (.cells #[Ur qM] E z):=ku.2 ⟨hg,rfl⟩
 obtain⟨n,g',wl,w',h1,h2,hk,hos⟩:=QE.alone hinit (T (az6 prog (tZ prog fun v _=>v= .bool true)) rfl (atStart W) nums _ E z hsl hgs)
 refine⟨n,g',wl,.bool true,w',h1,h2,?_⟩
 have hb:=hk.below
 have e2:({w' with os:=W.os}:World)=w':=by rw[←hos]
 rw[e2]at hb
 refine ChangeSpec.post_blind ⟨[d0],[],p,[],p,[],hW',?_,?_,?_,hb.frame _,fun h=>by cases h⟩
 ·have hrl:Value.resultList fn'.resultTypes.size (.bool true)=[.bool true]:=by rw[hrs];rfl
  rw[List.append_nil,hs,hrl,hr];exact trodAll_mk1 (shut_bool SS true)
 ·rw[List.append_nil,hs,hp]
  exact trodAll_mk1 (Below.trod YR (by kernel_rfl) (of_decide_eq_true (by kernel_rfl)) h0 hb hlt)
 ·rw[List.append_nil,hs,hv];rfl
end
end Go.aS
