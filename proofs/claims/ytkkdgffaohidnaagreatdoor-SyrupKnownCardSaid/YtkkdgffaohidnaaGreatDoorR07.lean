/- A group, as the judgement on code sees it: it opens, and it is left. Conditions: none; over any program. (And 11 texts more.) -/
import Derived.Test.YtkkdgffaohidnaaGreatDoorR06
import Derived.Conc.EntryLaws
import Derived.Conc.MarkLaws
import Derived.Conc.AtomicLaws2
import Derived.Conc.ClockLaws
import Derived.Test.YtkkdgffaohidnaaGreatDoorProg
import Derived.Test.YtkkdgffaohidnaaGreatDoorR02
import Derived.KernelRfl
set_option linter.unusedVariables false
set_option linter.unusedSimpArgs false
set_option linter.unusedSectionVars false

/- A group, as the judgement on code sees it: it opens, and it is left. Conditions: none; over any program. -/
namespace Go.aS
def Za(γ:GP)(c:Obj):ah:=match γ.mu with | none=>[] | some q=>[(q.1,BQ q.2 ⟨0,0,0,0,0⟩),(γ.C,c)]

section
variable{P:Program}{h k:Hp}{F:ah}{M:Nat→Prop}{γ:GP}{N:Nat}{c:Obj}
theorem Sat.drop{b:Nat}{o:Obj}(S:Sat h ((b,o)::F) k M):Sat h F (hdel k b) (fun x=>M x∧x≠b):=by
 have hb:=S.own b o (List.mem_cons_self ..)
 have hnd:=S.nodup
 simp only[List.map_cons,List.nodup_cons]at hnd
 have hnb:∀c x,(c,x)∈F→c≠b:=by
  rintro c x hx rfl
  exact hnd.1 (List.mem_map.2 ⟨_,hx,rfl⟩)
 refine⟨fun x o hx=>?_,fun x o hx=>?_,hnd.2,fun x o hm hx ho=>?_,fun x hx=>?_⟩
 ·have e:x≠b:=by rintro rfl;rw[hb.2.2]at hx;cases hx
  rw[iR _ e];exact S.sub x o hx
 ·have e:=hnb x o hx
  have:=S.own x o (List.mem_cons_of_mem _ hx)
  exact⟨by rw[iR _ e];exact this.1,⟨this.2.1,e⟩,this.2.2⟩
 ·rcases S.all x o hm.1 (iM hx).2 ho with h1 | h1
  ·rcases List.mem_cons.1 h1 with e | h1
   ·cases e;exact absurd rfl hm.2
   ·exact .inl h1
  ·exact .inr h1
 ·have:=S.CO x hx
  have e:x≠b:=by rintro rfl;exact this.1 hb.2.1
  exact⟨fun h=>this.1 h.1,by rw[iR _ e];exact this.2⟩
theorem Fr.drop{M M':Nat→Prop}{F G:ah}{b:Nat}{o o':Obj}(f:Fr M ((b,o)::F) M' ((b,o')::G)):Fr M ((b,o)::F) (fun x=>M' x∧x≠b) G:=fun x hx hF=>
 let⟨h1,h2⟩:=f x hx hF
 ⟨⟨h1,fun e=>by subst e;exact hF o (List.mem_cons_self ..)⟩,fun o ho=>h2 o (List.mem_cons_of_mem _ ho)⟩

theorem Sat.opens(S:Sat h ((γ.Wg,zo γ.tW ⟨0,0,0⟩)::(Za γ c++F)) k M)(hN:N≤63)(hJ:γ.mu≠none→γ.J [] c)(hjc:∀l c,γ.J l c→c.isChan=false):
  Opens γ N c k M∧Sat h ((γ.Wg,sK 0 0 N)::F) (hopen k γ N) (Jg γ M)∧Fr M ((γ.Wg,zo γ.tW ⟨0,0,0⟩)::(Za γ c++F)) (Jg γ M) ((γ.Wg,sK 0 0 N)::F):=by
 have hw:=S.own _ _ (List.mem_cons_self ..)
 have hnd:=S.nodup
 simp only[List.map_cons,List.map_append,List.nodup_cons,List.nodup_append,List.mem_append]at hnd
 obtain⟨hnd1,abE,aeJ,adb⟩:=hnd
 have abG:γ.mu≠none→∃tM,Za γ c=[(γ.Mu,BQ tM ⟨0,0,0,0,0⟩),(γ.C,c)]:=fun hm=>by
  obtain⟨q,hq⟩:=Option.ne_none_iff_exists'.1 hm
  exact⟨q.2,by simp[Za,hq,Grp.I5 hq]⟩
 have ZI:γ.mu≠none→∃tM,(γ.Mu,BQ tM ⟨0,0,0,0,0⟩)∈Za γ c∧(γ.C,c)∈Za γ c:=fun hm=>by
  obtain⟨tM,e⟩:=abG hm
  exact⟨tM,by rw[e];simp,by rw[e];simp⟩
 have TU:γ.mu≠none→γ.Wg≠γ.Mu∧γ.C≠γ.Wg∧γ.C≠γ.Mu:=fun hm=>by
  obtain⟨tM,e⟩:=abG hm
  rw[e]at hnd1 abE
  simp at hnd1 abE
  exact⟨fun e=>hnd1.1.1 e,fun e=>hnd1.1.2 e.symm,fun e=>abE e.symm⟩
 have aeK:∀b o,(b,o)∈F→b≠γ.Wg∧(γ.mu≠none→b≠γ.Mu∧b≠γ.C):=fun b o hb=>by
  have hbF:b∈F.map (·.1):=List.mem_map.2 ⟨_,hb,rfl⟩
  refine⟨fun e=>hnd1 (.inr (by rw[←e];exact hbF)),fun hm=>?_⟩
  obtain⟨tM,h1,h2⟩:=ZI hm
  exact⟨fun e=>adb _ (List.mem_map.2 ⟨_,h1,rfl⟩) _ hbF e.symm,fun e=>adb _ (List.mem_map.2 ⟨_,h2,rfl⟩) _ hbF e.symm⟩
 have own:∀b o,(b,o)∈Za γ c→k b=some o∧M b∧h b=none:=fun b o hb=>S.own b o (List.mem_cons_of_mem _ (List.mem_append_left _ hb))
 have hno:γ.mu≠none→h γ.Mu=none∧h γ.C=none∧M γ.Mu∧M γ.C:=fun hm=>by
  obtain⟨tM,h1,h2⟩:=ZI hm
  exact⟨(own _ _ h1).2.2,(own _ _ h2).2.2,(own _ _ h1).2.1,(own _ _ h2).2.1⟩
 refine⟨⟨hw.1,hw.2.1,fun q hq=>?_,fun hm=>?_,?_,fun hm=>(TU hm).2,hjc,hN⟩,⟨fun b o hb=>?_,fun b o hb=>?_,?_,fun b o hm hb ho=>?_,fun b hb=>?_⟩,fun b hb hF=>?_⟩
 ·have:=own q.1 (BQ q.2 ⟨0,0,0,0,0⟩) (by simp[Za,hq])
  exact⟨this.1,this.2.1⟩
 ·obtain⟨tM,_,h2⟩:=ZI hm
  exact⟨(own _ _ h2).1,(own _ _ h2).2.1,hJ hm⟩
 ·by_cases hm:γ.mu=none
  ·exact .inr hm
  ·exact .inl (TU hm).1
 ·rw[zH]
  ·exact S.sub b o hb
  ·rintro rfl;rw[hw.2.2]at hb;cases hb
  ·intro hm
   obtain⟨h1,h2,_⟩:=hno hm
   exact⟨(by rintro rfl;rw[h1]at hb;cases hb),(by rintro rfl;rw[h2]at hb;cases hb)⟩
 ·rcases List.mem_cons.1 hb with e | hb
  ·cases e
   exact⟨bH _ _ _,⟨hw.2.1,fun hm=>⟨(TU hm).1,(TU hm).2.1.symm⟩⟩,hw.2.2⟩
  ·obtain⟨h1,h2⟩:=aeK b o hb
   have:=S.own b o (List.mem_cons_of_mem _ (List.mem_append_right _ hb))
   exact⟨by rw[zH h1 h2];exact this.1,⟨this.2.1,h2⟩,this.2.2⟩
 ·simp only[List.map_cons,List.nodup_cons]
  exact⟨fun h=>hnd1 (.inr h),aeJ⟩
 ·rcases jl hb with⟨rfl,rfl⟩ | ⟨h1,h2,h3⟩
  ·exact .inl (List.mem_cons_self ..)
  ·rcases S.all b o hm.1 h2 ho with h4 | h4
   ·rcases List.mem_cons.1 h4 with e | h4
    ·cases e;exact absurd rfl h1
    ·rcases List.mem_append.1 h4 with h4 | h4
     ·exfalso
      by_cases hmm:γ.mu=none
      ·simp[Za,hmm]at h4
      ·obtain⟨tM,e⟩:=abG hmm
       rw[e]at h4
       simp at h4
       rcases h4 with⟨e,_⟩ | ⟨e,_⟩
       ·exact(h3 hmm).1 e
       ·exact(h3 hmm).2 e
     ·exact .inl (List.mem_cons_of_mem _ h4)
   ·exact .inr h4
 ·obtain⟨h1,h2⟩:=S.CO b hb
  refine⟨fun hm=>h1 hm.1,?_⟩
  rw[zH]
  ·exact h2
  ·rintro rfl;exact h1 hw.2.1
  ·intro hm
   obtain⟨_,_,h3,h4⟩:=hno hm
   exact⟨(by rintro rfl;exact h1 h3),(by rintro rfl;exact h1 h4)⟩
 ·refine⟨⟨hb,fun hm=>?_⟩,fun o ho=>?_⟩
  ·obtain⟨tM,h1,h2⟩:=ZI hm
   exact⟨(by rintro rfl;exact hF _ (List.mem_cons_of_mem _ (List.mem_append_left _ h1))),(by rintro rfl;exact hF _ (List.mem_cons_of_mem _ (List.mem_append_left _ h2)))⟩
  ·rcases List.mem_cons.1 ho with e | ho
   ·cases e;exact hF _ (List.mem_cons_self ..)
   ·exact hF o (List.mem_cons_of_mem _ (List.mem_append_right _ ho))

theorem Stp.inside{Fin:Goroutine→Hp→(Nat→Prop)→Prop}{g:Goroutine}(hk:k γ.Wg=some Bj)(hM:M γ.Wg)(H:Stp P true (CJ P true (Mo P Fin)) g (hdel k γ.Wg) (fun b=>M b∧b≠γ.Wg)):
  Stp P true (CJ P true (wO P γ (CJ P true (Mo P Fin)))) g k M:=by
 refine⟨H.1,fun w hw hd=>?_⟩
 have hlt:=hw.lt hk
 obtain⟨g',w',es,e,gu,T⟩:=H.2 w (fun b o hb=>hw b o (iM hb).2) fun b hb=>by rw[iR _ hb.2];exact hd b hb.1
 refine⟨g',w',es,e,⟨gu.size,fun b hb hm=>gu.keep b hb fun h=>hm h.1,gu.chans,gu.news,gu.stay,fun b o hb ho=>?_,gu.os,gu.output,gu.tape,fun e he=>?_⟩,.stop (.exit (vk hk rfl) ?_)⟩
 ·by_cases hbW:b=γ.Wg
  ·subst hbW;exact gu.keep _ hlt fun h=>h.2 rfl
  ·exact gu.Dw b o (by rw[iR _ hbW];exact hb) ho
 ·have key:∀b,(hdel k γ.Wg b).isSome=true→b≠γ.Wg:=fun b hb e=>by subst e;rw[qW]at hb;cases hb
  have:=gu.evs e he
  unfold Bd at this⊢
  split at this
  ·rename_i a ha
   refine⟨this.1,this.2.imp (fun x=>?_) id⟩
   have hb:=key _ x.1
   rw[iR _ hb]at x
   exact⟨x.1,x.2.1,fun y=>(x.2.2 y).1⟩
  ·rename_i r hr
   refine⟨this.1,this.2.imp (fun x=>?_) id⟩
   have hb:=key _ x.1
   rw[iR _ hb]at x
   exact⟨x.1,x.2.1,fun y=>(x.2.2 y).1⟩
  ·exact this
  ·exact this.elim
 ·have e1:hdel (snap k w w') γ.Wg=snap (hdel k γ.Wg) w w':=by
   refine Hp.ext' (fun b=>?_) rfl
   by_cases hbW:b=γ.Wg
   ·subst hbW
    rw[qW,vC (qW _ _) hlt]
   ·rw[iR _ hbW]
    simp only[snap,iR _ hbW]
  have e2:(fun b=>grown M w w' b∧b≠γ.Wg)=grown (fun b=>M b∧b≠γ.Wg) w w':=by
   funext b
   apply propext
   constructor
   ·rintro⟨h | h,hn⟩
    ·exact .inl ⟨h,hn⟩
    ·exact .inr h
   ·rintro(h | h)
    ·exact⟨.inl h.1,h.2⟩
    ·exact⟨.inr h,fun e=>by subst e;omega⟩
  rw[e1,e2]
  exact T
end
end Go.aS

/- A group, as the judgement on code sees it: Add, Wait, Lock. Conditions: none; over any program. -/
namespace Go.aS
section
variable{h k:Hp}{F A:ah}{M:Nat→Prop}
theorem Jk{b:Nat}{o:Obj}(hn:(A.map (·.1)).Nodup)(hb:(b,o)∈A):hadd k A b=some o:=by
 simp only[hadd]
 obtain⟨o',e⟩:=Option.isSome_iff_exists.1 (zD hb)
 rw[e]
 have h2:=jV e
 have:o'=o:=by
  clear e
  induction A with
  | nil=>cases hb
  | cons p A ih=>
   simp only[List.map_cons,List.nodup_cons]at hn
   rcases List.mem_cons.1 hb with e1 | hb1
   ·rcases List.mem_cons.1 h2 with e2 | h3
    ·rw[←e1]at e2;cases e2;rfl
    ·subst e1;exact absurd (List.mem_map.2 ⟨_,h3,rfl⟩) (show b∉_ from hn.1)
   ·rcases List.mem_cons.1 h2 with e2 | h3
    ·subst e2;exact absurd (List.mem_map.2 ⟨_,hb1,rfl⟩) (show b∉_ from hn.1)
    ·exact ih hn.2 hb1 h3
 rw[this]
theorem Jl{b:Nat}(hb:∀o,(b,o)∉A):hadd k A b=k b:=by
 simp only[hadd]
 cases e:A.lookup b with
 | none=>rfl
 | some o=>exact absurd (jV e) (hb o)
theorem Jm{b:Nat}{o:Obj}(e:hadd k A b=some o):(b,o)∈A∨k b=some o:=by
 simp only[hadd]at e
 cases e':A.lookup b with
 | none=>rw[e']at e;exact .inr e
 | some o'=>rw[e']at e;cases e;exact .inl (jV e')

theorem Sat.learn(S:Sat h F k M)(hn:(A.map (·.1)).Nodup)(hA:∀b o,(b,o)∈A→k b=none∧¬M b∧o.isChan=false):Sat h (A++F) (hadd k A) (fun b=>M b∨∃o,(b,o)∈A)∧Fr M F (fun b=>M b∨∃o,(b,o)∈A) (A++F):=by
 have hk:∀b o,k b=some o→hadd k A b=some o:=fun b o hb=>by
  rw[Jl fun o' ho'=>by rw[(hA b o' ho').1]at hb;cases hb];exact hb
 refine⟨⟨fun b o hb=>hk b o (S.sub b o hb),fun b o hb=>?_,?_,fun b o hm hb ho=>?_,fun b hb=>?_⟩,fun b hm hF=>⟨.inl hm,fun o ho=>?_⟩⟩
 ·rcases List.mem_append.1 hb with hb | hb
  ·refine⟨Jk hn hb,.inr ⟨o,hb⟩,?_⟩
   cases e:h b with
   | none=>rfl
   | some o'=>have:=S.sub b o' e;rw[(hA b o hb).1]at this;cases this
  ·have:=S.own b o hb
   exact⟨hk b o this.1,.inl this.2.1,this.2.2⟩
 ·rw[List.map_append,List.nodup_append]
  refine⟨hn,S.nodup,fun b hb b' hb' e=>?_⟩
  subst e
  obtain⟨⟨b1,o1⟩,h1,rfl⟩:=List.mem_map.1 hb
  obtain⟨⟨b2,o2⟩,h2,e⟩:=List.mem_map.1 hb'
  simp only at e
  subst e
  have:=(S.own _ _ h2).1
  rw[(hA _ _ h1).1]at this;cases this
 ·rcases Jm hb with hb | hb
  ·rw[Fh (hA b o hb).2.2]at ho;cases ho
  ·rcases hm with hm | ⟨o',hm⟩
   ·exact(S.all b o hm hb ho).imp (fun h=>List.mem_append_right _ h) id
   ·rw[(hA b o' hm).1]at hb;cases hb
 ·obtain⟨h1,h2⟩:=S.CO b hb
  obtain⟨o,ho⟩:=Option.isSome_iff_exists.1 h2
  refine⟨?_,by rw[hk b o ho];rfl⟩
  rintro(h | ⟨o',h⟩)
  ·exact h1 h
  ·rw[(hA b o' h).1]at ho;cases ho
 ·rcases List.mem_append.1 ho with ho | ho
  ·exact(hA b o ho).2.1 hm
  ·exact hF o ho
theorem Xv{b:Nat}{o:Obj}:hadd k [(b,o)]=hset k b o:=by
 refine Hp.ext' (fun x=>?_) rfl
 by_cases hx:x=b
 ·subst hx;rw[bH,Jk (by simp) (List.mem_cons_self ..)]
 ·rw[bY _ _ hx,Jl fun o' ho'=>by simp at ho';exact hx ho'.1]
end
section rules
variable{x:Cx}{Q:Post}{ρ:Env}{ds:List Deferred}{F:ah}{ops:Array Oper}{i:Nat}{rest:List Nat}{o:Oper}
theorem Jp{P:Program}{m:Bool}{π:jM}{fn f:FuncId}{b:Frame}{tmps:Array Value}{k:List Item}{cs:List Frame}{args:Array Value}{s:π.S}{R:Value→π.S→Prop}{E:π.S→Goroutine→Prop}(hfn:b.fn=fn)(hk':(b.kind==CallKind.early)=false)(ho:ops[i]? =some o)(hw:Region.wanted o (yielded ops tmps)=true)(hdf:∀c,o.op≠ .defer c)
  (hv:∃es,seen P fn es= #[]∧∀w,(execOp (bW b tmps ds (.inRegion ops (i::rest)::k)).eval o).runT P w #[]=(.ok (.enter f args) w,es)) (hL:iK P m π f args s R)
  (hE:∀v s',R v s'→E s' (G ((bW b tmps ds (.inRegion ops (i::rest)::k)).finish v) cs)):jJ P m π E s (G (bW b tmps ds (.inRegion ops (i::rest)::k)) cs):=by
 obtain⟨es,hes,hr⟩:=hv
 have hff:(bW b tmps ds (.inRegion ops (i::rest)::k)).fn=fn:=hfn
 refine .idle (g':=G (Frame.enter P f args .normal) (bW b tmps ds (.inRegion ops (i::rest)::k)::cs)) rfl (fun w=>?_) (hL _ cs E fun v s' r=>.exit rfl (hE v s' r))
 have:=AL (P:=P) (main:=sd m) (ds:=ds) (rest:=rest) (b:=b) (k:=k) (cs:=cs) (w:=w) ho hw hdf
 rw[show(sd m).b=m from rfl]at this
 rw[this,yY (fr:=bW b tmps ds (.inRegion ops (i::rest)::k)) (cs:=cs) (hr w) hk' ⟨_,_,_,rfl⟩,hff,hes]

theorem Ops.add{γ:GP}{f:FuncId}{args:Array Value}{j left:Nat}{U:Obj→ah}(hS:∀S,x.main.ok S→∃Ex,S=wO x.P γ Ex)(hb:x.main.b=true)(ho:ops[i]? =some o)(hw:want ops ρ o)(hd:d_ o.dst x.n=true)(hdf:∀c,o.op≠ .defer c)
  (hv:∀e,Kn1 ρ e→∃es,seen x.P x.fn es= #[]∧∀w,(execOp e o).runT x.P w #[]=(.ok (.enter f args) w,es)) (hL:iK x.P true (aJ γ.toGrp) f args (.wg (.add 0) 0) fun v s=>v= .tuple #[]∧s= .wg (.add 1) 0)
  (hl:At γ.Wg (sK 0 j left) F U) (H:Ops x ops rest Q (put ρ o.dst (.tuple #[])) ds (U (sK 1 j left))):Ops x ops (i::rest) Q ρ ds F:=by
 intro b k cs Stop tmps hk M h1 h0 h2 h3 h4 h5 hc
 have hk':(b.kind==CallKind.early)=false:=by simpa using h2
 obtain⟨e1,e2,S',f'⟩:=h5.ghost (o':=sK 1 j left) hl ⟨rfl,rfl⟩
 obtain⟨Ex,eS⟩:=hS _ Stop.2.1
 obtain⟨p1,p2⟩:=h3.put' h4 hd (.tuple #[])
 have eG:Gs x.P x.main Stop=CJ x.P true (wO x.P γ Ex):=by funext g k M;unfold Gs;rw[hb,eS]
 have:=H b k cs Stop _ _ _ h1 h0 h2 p1 p2 S' fun e ρ' ds' G aZ hk' M' q a1 a2 a3 a4=>hc e ρ' ds' G aZ hk' M' q a1 a2 a3 (f'.trans a4)
 rw[eG]at this⊢
 refine .stop (.add e1 e2 (fun s g'=>s= .wg (.add 1) 0∧g'=G ((bW b tmps ds (.inRegion ops (i::rest)::k)).finish (.tuple #[])) cs) (Jp h1 hk' ho (hw.wanted h3) hdf (hv _ fun _ _ hx=>h3.ev hx) hL fun v s' r=>⟨r.2,by rw[r.1]⟩) (fun s g' h=>h.1) fun s g' h=>?_)
 obtain⟨_,rfl⟩:=h
 rw[eY (b:=b) (t:=tmps) (ds:=ds) (k:=k) (cs:=cs) (rest:=rest) ho (.tuple #[])]
 exact wO.rQ this

theorem Ops.wait{γ:GP}{f:FuncId}{args:Array Value}{j left:Nat}{U:Obj→ah}(hS:∀S,x.main.ok S→∃Ex,S=wO x.P γ Ex)(hb:x.main.b=true)(ho:ops[i]? =some o)(hw:want ops ρ o)(hd:d_ o.dst x.n=true)(hdf:∀c,o.op≠ .defer c)
  (hv:∀e,Kn1 ρ e→∃es,seen x.P x.fn es= #[]∧∀w,(execOp e o).runT x.P w #[]=(.ok (.enter f args) w,es)) (hL:iK x.P true (aJ γ.toGrp) f args (.wg (.add 0) 0) fun v s=>v= .tuple #[]∧s= .wg .out 0)
  (hl:At γ.Wg (sK 0 j left) F U) (H:∀l c As,As.length=j→(∀(i:Nat) (A:ah),As[i]? =some A→γ.R i A)→(γ.mu≠none→γ.J l c∧l.Perm ((List.range j).filterMap γ.tag))→Ops x ops rest Q (put ρ o.dst (.tuple #[])) ds (back γ c As++U Bj)):Ops x ops (i::rest) Q ρ ds F:=by
 intro b k cs Stop tmps hk M h1 h0 h2 h3 h4 h5 hc
 have hk':(b.kind==CallKind.early)=false:=by simpa using h2
 obtain⟨e1,e2,_,_⟩:=h5.ghost (o':=Bj) hl ⟨rfl,rfl⟩
 obtain⟨Ex,eS⟩:=hS _ Stop.2.1
 obtain⟨p1,p2⟩:=h3.put' h4 hd (.tuple #[])
 have eG:Gs x.P x.main Stop=CJ x.P true (wO x.P γ Ex):=by funext g k M;unfold Gs;rw[hb,eS]
 rw[eG]
 refine .stop (.wait e1 e2 (fun s g'=>s= .wg .out 0∧g'=G ((bW b tmps ds (.inRegion ops (i::rest)::k)).finish (.tuple #[])) cs) (Jp h1 hk' ho (hw.wanted h3) hdf (hv _ fun _ _ hx=>h3.ev hx) hL fun v s' r=>⟨r.2,by rw[r.1]⟩) (fun s g' h=>h.1) fun s g' l c As h hlen hR hJ hnd hnew=>?_)
 obtain⟨_,rfl⟩:=h
 rw[eY (b:=b) (t:=tmps) (ds:=ds) (k:=k) (cs:=cs) (rest:=rest) ho (.tuple #[])]
 obtain⟨S1,f1⟩:=h5.learn hnd hnew
 obtain⟨_,_,S2,f2⟩:=S1.ghost (o':=Bj) (At.app (B:=back γ c As) hl) ⟨rfl,rfl⟩
 have:=H l c As hlen hR hJ b k cs Stop _ _ _ h1 h0 h2 p1 p2 S2 fun e ρ' ds' G aZ hk' M' q a1 a2 a3 a4=>hc e ρ' ds' G aZ hk' M' q a1 a2 a3 ((f1.trans f2).trans a4)
 rw[eG]at this
 exact wO.rQ this

theorem Ops.lock{γ:GP}{j:Nat}{f:FuncId}{args:Array Value}{U:Obj→ah}(hS:∀S,x.main.ok S→S=Wk x.P γ j)(hb:x.main.b=false)(hm:γ.mu≠none)(hcc:∀l c,γ.J l c→c.isChan=false)(ho:ops[i]? =some o)(hw:want ops ρ o)(hd:d_ o.dst x.n=true)(hdf:∀c,o.op≠ .defer c)
  (hv:∀e,Kn1 ρ e→∃es,seen x.P x.fn es= #[]∧∀w,(execOp e o).runT x.P w #[]=(.ok (.enter f args) w,es)) (hL:∀B,iK x.P false (aJ γ.toGrp) f args (.mu .out none B 0 0) fun v s=>v= .tuple #[]∧∃o B,s= .mu .hold o B 0 1)
  (hl:At γ.Mu (gK .out) F U) (H:∀l c,γ.J l c→Ops x ops rest Q (put ρ o.dst (.tuple #[])) ds ((γ.C,c)::U (gK (.hold l)))):Ops x ops (i::rest) Q ρ ds F:=by
 intro b k cs Stop tmps hk M h1 h0 h2 h3 h4 h5 hc
 have hk':(b.kind==CallKind.early)=false:=by simpa using h2
 obtain⟨e1,e2,_,_⟩:=h5.ghost (o':=gK .fin) hl ⟨rfl,rfl⟩
 have eS:=hS _ Stop.2.1
 obtain⟨p1,p2⟩:=h3.put' h4 hd (.tuple #[])
 have eG:Gs x.P x.main Stop=CJ x.P false (Wk x.P γ j):=by funext g k M;unfold Gs;rw[hb,eS]
 rw[eG]
 refine .stop ⟨.lock hm e1 e2 (fun s g'=>(∃o B,s= .mu .hold o B 0 1)∧g'=G ((bW b tmps ds (.inRegion ops (i::rest)::k)).finish (.tuple #[])) cs) (fun B=>Classical.choice (jJ.tree (Jp h1 hk' ho (hw.wanted h3) hdf (hv _ fun _ _ hx=>h3.ev hx) (hL B) fun v s' r=>⟨r.2,by rw[r.1]⟩))) (fun s g' h=>h.1) fun s g' l c h hJ V6 Ho=>Classical.choice ?_⟩
 obtain⟨_,rfl⟩:=h
 rw[eY (b:=b) (t:=tmps) (ds:=ds) (k:=k) (cs:=cs) (rest:=rest) ho (.tuple #[])]
 obtain⟨_,_,S1,f1⟩:=h5.ghost (o':=gK (.hold l)) hl ⟨rfl,rfl⟩
 have hCM:γ.C≠γ.Mu:=fun e=>Ho (by rw[e];exact e2)
 obtain⟨S2,f2⟩:=S1.learn (A:=[(γ.C,c)]) (by simp) fun b o hb=>by
  obtain⟨rfl,rfl⟩:=Prod.mk.inj (List.mem_singleton.1 hb)
  exact⟨by rw[bY _ _ hCM];exact V6,Ho,hcc _ _ hJ⟩
 rw[Xv]at S2
 have eM:(fun b=>M b∨∃o,(b,o)∈[(γ.C,c)])=fun b=>M b∨b=γ.C:=by
  funext b
  apply propext
  simp
 rw[eM]at S2 f2
 have:=H l c hJ b k cs Stop _ _ _ h1 h0 h2 p1 p2 S2 fun e ρ' ds' G aZ hk' M' q a1 a2 a3 a4=>hc e ρ' ds' G aZ hk' M' q a1 a2 a3 ((f1.trans f2).trans a4)
 rw[eG]at this
 exact Wk.rQ this
end rules
end Go.aS

/- A worker, from its body; starting one. Conditions: none; over any program. -/
namespace Go.aS
open Go.Conc (QuitsIn)
section
variable{P:Program}{γ:GP}{j:Nat}
def Io(P:Program)(γ:GP)(fn:FuncId)(d:Deferred):Prop:=(∀r,d.target≠ .collected r)∧∃g args es,(∀w,(invoke d.target d.args).runT P w #[]=(.ok (.enter g args) w,es))∧seen P fn es= #[]∧∀B,Y9 P false (aJ γ.toGrp) g args (.mu .hold none B 0 1) fun s=>∃o B,s= .mu .fin o B 0 2
def PE(P:Program)(γ:GP)(fn:FuncId)(d:Deferred):Prop:=(∀r,d.target≠ .collected r)∧∃g args es,(∀w,(invoke d.target d.args).runT P w #[]=(.ok (.enter g args) w,es))∧seen P fn es= #[]∧Y9 P false (aJ γ.toGrp) g args (.dn .live 0) fun s=>s= .dn .gone 0

def Xw(P:Program)(γ:GP)(j:Nat)(fn:FuncId)(h:Hp):List Deferred→ah→Prop
 | [],_=>False
 | d::ds,F=>(∃r,d.target= .collected r∧tr P h (Instr.takeDeferred r) F fun l F'=>l=[]∧Xw P γ j fn h ds F')∨
  (Io P γ fn d∧γ.mu≠none∧∃l c t F',F.Perm ((γ.C,c)::(γ.Mu,gK (.hold l))::F')∧γ.tag j=some t∧γ.J (t::l) c∧Xw P γ j fn h ds ((γ.Mu,gK .fin)::F'))∨
  (PE P γ fn d∧ds=[]∧∃A F',F.Perm (A++F')∧(∀b o,(b,o)∈A→o.isChan=false)∧γ.R j A∧(γ.tag j=none∨(γ.mu≠none∧(γ.Mu,gK .fin)∈F)))

theorem LP{b:Frame}{t:Array Value}{cs:List Frame}{d:Deferred}{ds:List Deferred}{todo:List Item}{w:World}{g:FuncId}{args:Array Value}{es:Array Event}(hd:∀r,d.target≠ .collected r)(h1:(invoke d.target d.args).runT P w #[]=(.ok (.enter g args) w,es))(h2:seen P b.fn es= #[]):
  stepG P false (G (iC b t (d::ds) todo) cs) w= .go (G (Frame.enter P g args .deferred) (iC b t ds todo::cs)) w #[]:=by
 rw[AQ hd]
 unfold callDeferred
 have e2:(iC b t ds todo).mode= .returning:=rfl
 have e3:(iC b t ds todo).fn=b.fn:=rfl
 simp only[h1,e2,e3,h2,Bool.and_false,if_false,Bool.false_eq_true]
 rfl

theorem U_{b:Frame}{fn:Func}{t:Array Value}{h:Hp}(hf:P.funcs[b.fn]? =some fn)(hr:fn.results= #[])(hkd:b.kind= .deferred):∀{ds:List Deferred} {F:ah} {hk:Hp} {M:Nat→Prop} (todo:List Item),Sat h F hk M→Xw P γ j b.fn h ds F→
  CJ P false (Wk P γ j) (G (iC b t ds todo) [kW P]) hk M:=by
 intro ds
 induction ds with
 | nil=>exact fun _ _ hu=>hu.elim
 | cons d ds ih=>
  intro F hk M todo S hu
  rcases hu with⟨r,heq,hu⟩ | ⟨⟨hd,g,args,es,h1,h2,h3⟩,hm,l,c,tg,F',hp,ht,hJ,hu⟩ | ⟨⟨hd,g,args,es,h1,h2,h3⟩,rfl,A,F',hp,hA,hR,hfin⟩
  ·obtain⟨target,dargs⟩:=d
   simp only at heq
   subst heq
   refine .oN ⟨rfl,fun w hw hM=>?_⟩
   obtain⟨l,F',w',es,r1,r2,r3,r4,rfl,r5⟩:=jR _ #[] hu S hw hM
   rw[Array.empty_append]at r1
   exact⟨G (iC b t ds todo) [kW P],w',seen P b.fn es,Dy (main:=wkS P γ j) r1,r2.mem fun _=>mem_seen,ih todo r3 r5⟩
  ·have S1:=S.perm hp.symm
   have hC:=S1.own _ _ (List.mem_cons_self ..)
   have hMu:=S1.own γ.Mu (gK (.hold l)) (by simp)
   refine .stop ⟨.unlock hm hMu.1 hMu.2.1 hC.1 hC.2.1 ht hJ (fun s g'=>(∃o B,s= .mu .fin o B 0 2)∧g'=G (iC b t ds todo) [kW P]) (fun B=>Classical.choice (jJ.tree (.idle rfl (fun w=>LP hd (h1 w) h2) (h3 B (iC b t ds todo) [kW P] _ (fun r o h=>by cases h) fun s' r=>.exit rfl ⟨r,rfl⟩)))) (fun s g' h=>h.1) fun s g' h=>Classical.choice ?_⟩
   obtain⟨_,rfl⟩:=h
   obtain⟨_,_,S2,_⟩:=S1.ghost (o':=gK .fin) (At.tail At.head) ⟨by rfl,by rfl⟩
   exact Wk.rQ (ih todo S2.drop hu)
  ·have S1:=S.perm hp.symm
   have hnd:=S1.nodup
   rw[List.map_append,List.nodup_append]at hnd
   refine .stop ⟨.done (hfin.imp id fun h=>⟨h.1,(S.own _ _ h.2).1⟩) A (fun b o hb=>?_) hnd.1 hR (Classical.choice (jJ.tree (.idle rfl (fun w=>LP hd (h1 w) h2) (h3 (iC b t [] todo) [kW P] _ (fun r o h=>by cases h) fun s' r=>.exit rfl ⟨r,2,?_⟩))))⟩
   ·have:=S1.own b o (List.mem_append_left _ hb)
    exact⟨this.1,this.2.1,hA b o hb⟩
   ·exact .inr ⟨rfl,_,fun w=>Xu hf hr hkd,RH⟩

theorem Wk.start{f:FuncId}{fn:Func}{body:Code}[FB P f](hf:P.funcs[f]? =some fn)(hb:fn.body=some body)(hr:fn.results= #[]){ca args:Array Value}(ha:(args++ca).size≤fn.ntmps)(ρ:Env)(hρ:G9 ρ (args++ca)){F:ah}{h kc:Hp}{M:Nat→Prop}(S:Sat h F kc M)
  (H:W ⟨P,wkS P γ j,f,fn.ntmps,none,h⟩ body (fun e _ ds F=>(e= .ret∨e= .normal)∧Xw P γ j f h ds F) ρ [] F):Wk P γ j (wV P {target:=.fn (.func f) ca,args}) kc M:=by
 refine Wk.rQ (.idle rfl Xt ?_)
 have e:Frame.enter P f (args++ca) .deferred=bW {(default:Frame)with fn:=f,kind:=.deferred} (args++ca++Array.replicate (fn.ntmps- (args++ca).size) undef) [] [.code body]:=by
  simp[Frame.enter,bW,hf,hb];rfl
 rw[e]
 refine H _ [] [kW P] ⟨Wk P γ j,rfl,Wk.x9⟩ _ kc M rfl rfl (by simp) hρ.ok (by simp at ha⊢;omega) S fun ex ρ' ds' F' aZ hk' M' q a1 a2 a3 a4=>?_
 obtain⟨hex,hu⟩:=q
 have go:∀todo,CJ P false (Wk P γ j) (G (iC {(default:Frame)with fn:=f,kind:=.deferred} aZ ds' todo) [kW P]) hk' M':=fun todo=>U_ (fn:=fn) hf hr rfl todo a3 hu
 rcases hex with rfl | rfl
 ·exact fun k'=>.idle rfl (fun _=>Fj (main:=wkS P γ j) rfl) (go _)
 ·exact .idle rfl (fun _=>Fp (main:=wkS P γ j) rfl) (go _)
end
theorem Sat.forget{h k:Hp}{A F:ah}{M:Nat→Prop}(S:Sat h (A++F) k M):Sat h F (xX k A) (fun b=>M b∧∀o,(b,o)∉A)∧Fr M (A++F) (fun b=>M b∧∀o,(b,o)∉A) F:=by
 have hnd:=S.nodup
 rw[List.map_append,List.nodup_append]at hnd
 have hnA:∀b o,(b,o)∈F→∀o',(b,o')∉A:=fun b o hb o' hb'=>hnd.2.2 b (List.mem_map.2 ⟨_,hb',rfl⟩) b (List.mem_map.2 ⟨_,hb,rfl⟩) rfl
 have hk:∀b,(∀o,(b,o)∉A)→xX k A b=k b:=fun b hb=>CS (by
  cases e:A.lookup b with
  | none=>rfl
  | some o=>exact absurd (jV e) (hb o))
 refine⟨⟨fun b o hb=>?_,fun b o hb=>?_,hnd.2.1,fun b o hm hb ho=>?_,fun b hb=>?_⟩,fun b hm hF=>⟨⟨hm,fun o ho=>hF o (List.mem_append_left _ ho)⟩,fun o ho=>hF o (List.mem_append_right _ ho)⟩⟩
 ·rw[hk b fun o' ho'=>by rw[(S.own b o' (List.mem_append_left _ ho')).2.2]at hb;cases hb]
  exact S.sub b o hb
 ·have:=S.own b o (List.mem_append_right _ hb)
  exact⟨by rw[hk b (hnA b o hb)];exact this.1,⟨this.2.1,hnA b o hb⟩,this.2.2⟩
 ·have h2:=(l9 hb).2
  rcases S.all b o hm.1 h2 ho with h3 | h3
  ·rcases List.mem_append.1 h3 with h3 | h3
   ·exact absurd h3 (hm.2 o)
   ·exact .inl h3
  ·exact .inr h3
 ·obtain⟨h1,h2⟩:=S.CO b hb
  exact⟨fun h=>h1 h.1,by rw[hk b fun o ho=>h1 (S.own b o (List.mem_append_left _ ho)).2.1];exact h2⟩

section rules
variable{x:Cx}{Q:Post}{ρ:Env}{ds:List Deferred}{F:ah}{ops:Array Oper}{i:Nat}{rest:List Nat}{o:Oper}
noncomputable def Ku(γ:GP)(j:Nat):ah:=by classical exact if γ.tag j=none then[]else[(γ.Mu,gK .out)]

theorem Ops.abH{γ:GP}{j left:Nat}{A:ah}{y:Operand}{args:List Operand}{ts:Array TypeId}{f:FuncId}{fi ca:Array Value}{vs:List Value}{U:Obj→ah}(hS:∀S,x.main.ok S→∃Ex,S=wO x.P γ Ex)(hb:x.main.b=true)(ho:ops[i]? =some o)(hop:o.op= .go ⟨.value y,args.toArray,ts⟩)(hw:want ops ρ o)(hd:d_ o.dst x.n=true)
  (hy:ev ρ y=some (.func (.func f) fi ca)) (hv:evs ρ args=some vs) (hA:∀b o,(b,o)∈A→o.isChan=false) (htm:γ.tag j≠none→γ.mu≠none) (hl:At γ.Wg (sK 1 j (left+1)) F U)
  (hc:∀kc M,Sat (zI x.h) (Ku γ j++A) kc M→Wk x.P γ j (wV x.P {target:=.fn (.func f) ca,args:=fi++vs.toArray}) kc M)
  (H:Ops x ops rest Q (put ρ o.dst undef) ds (U (sK 0 (j+1) left))):Ops x ops (i::rest) Q ρ ds (A++F):=by
 classical
 intro b k cs Stop tmps hk M h1 h0 h2 h3 h4 h5 hcont
 have hk':(b.kind==CallKind.early)=false:=by simpa using h2
 obtain⟨e1,e2,_,_⟩:=h5.ghost (o':=sK 0 (j+1) left) (At.app (B:=A) hl) ⟨rfl,rfl⟩
 obtain⟨S1,f1⟩:=h5.forget
 obtain⟨e3,e4,S2,f2⟩:=S1.ghost (o':=sK 0 (j+1) left) hl ⟨rfl,rfl⟩
 obtain⟨Ex,eS⟩:=hS _ Stop.2.1
 obtain⟨p1,p2⟩:=h3.put' h4 hd undef
 have eG:Gs x.P x.main Stop=CJ x.P true (wO x.P γ Ex):=by funext g k M;unfold Gs;rw[hb,eS]
 have:=H b k cs Stop _ _ _ h1 h0 h2 p1 p2 S2 fun e ρ' ds' G aZ hk' M' q a1 a2 a3 a4=>hcont e ρ' ds' G aZ hk' M' q a1 a2 a3 ((f1.trans f2).trans a4)
 rw[eG]at this⊢
 have own:∀b o,(b,o)∈A→hk b=some o∧M b∧x.h b=none:=fun b o hb=>h5.own b o (List.mem_append_left _ hb)
 have hnd:=h5.nodup
 rw[List.map_append,List.nodup_append]at hnd
 let k1:Hp:=hadd (zI x.h) A
 let kc:Hp:=if γ.tag j=none then k1 else hset k1 γ.Mu (gK .out)
 have hk1:∀b o,k1 b=some o→hk b=some o∧o.isChan=false∧((b,o)∈A∨x.h.z b):=fun b o e=>by
  rcases Jm e with e | e
  ·exact⟨(own b o e).1,hA b o e,.inl e⟩
  ·obtain⟨q1,q2,q3⟩:=Jj e
   exact⟨h5.sub b o q2,q3,.inr q1⟩
 have hkc:∀b o,kc b=some o→(b=γ.Mu∧γ.tag j≠none∧o=gK .out)∨k1 b=some o:=fun b o e=>by
  by_cases qC:γ.tag j=none
  ·simp only[kc,if_pos qC]at e;exact .inr e
  ·simp only[kc,if_neg qC]at e
   rcases bV e with⟨q1,q2⟩ | ⟨_,q2⟩
   ·exact .inl ⟨q1,qC,q2⟩
   ·exact .inr q2
 have kA:∀b o,(b,o)∈A→(γ.mu≠none→hk γ.Mu=none)→γ.mu≠none→b≠γ.Mu:=fun b o hb hkm hm e=>by
  subst e
  have:=(own _ o hb).1
  rw[hkm hm]at this;cases this
 have ade:∀b o,(b,o)∈A→k1 b=some o:=fun b o hb=>Jk hnd.1 hb
 have kcA:(γ.mu≠none→hk γ.Mu=none)→∀b o,(b,o)∈A→kc b=some o:=fun hkm b o hb=>by
  by_cases qC:γ.tag j=none
  ·simp only[kc,if_pos qC];exact ade b o hb
  ·simp only[kc,if_neg qC]
   rw[bY _ _ (kA b o hb hkm (htm qC))];exact ade b o hb
 refine .stop (.spawn (A:=A) (kc:=kc) (M':=fun b=>M b∧∀o,(b,o)∉A) rfl rfl rfl (ada ho hop (hw.wanted h3) hk' (h3.ev hy) (by rw[List.map_toArray,lN (fun _ _ h=>h3.ev h) hv])) e1 e2 (fun hkm b o e=>?_) (fun qC=>⟨htm qC,by simp only[kc,if_neg qC];exact bH _ _ _⟩) (fun hkm hm qC=>?_) (fun hkm b o hb=>⟨kcA hkm b o hb,(own b o hb).1,(own b o hb).2.1,hA b o hb⟩) (fun hkm=>hc _ _ ?_) ⟨fun b hb=>hb.1,fun b o hm hn ho=>?_⟩ e4 (fun b hbm hs hm=>?_) ?_)
 ·rcases hkc b o e with⟨q1,q2,q3⟩ | q
  ·exact .inl ⟨q1,htm q2,q2,q3⟩
  ·exact .inr ⟨(hk1 b o q).1,(hk1 b o q).2.1⟩
 ·cases e:kc γ.Mu with
  | none=>rfl
  | some o=>
   rcases hkc _ o e with⟨_,q2,_⟩ | q
   ·exact absurd qC q2
   ·have:=(hk1 _ o q).1
    rw[hkm hm]at this;cases this
 ·have adf:γ.tag j≠none→hk γ.Mu=none:=fun qC=>hkm (htm qC)
  refine⟨fun b o e=>?_,fun b o hb=>?_,?_,fun b o hm e ho=>?_,fun b hb=>hb.elim⟩
  ·obtain⟨q1,q2,q3⟩:=Jj e
   have hn:∀o',(b,o')∉A:=fun o' ho'=>by rw[(own b o' ho').2.2]at q2;cases q2
   have adg:k1 b=some o:=by simp only[k1];rw[Jl hn];exact e
   by_cases qC:γ.tag j=none
   ·simp only[kc,if_pos qC];exact adg
   ·simp only[kc,if_neg qC]
    rw[bY]
    ·exact adg
    ·rintro rfl
     have:=h5.sub _ o q2
     rw[adf qC]at this;cases this
  ·have hz:∀b,x.h b=none→zI x.h b=none:=fun b hb=>by
    cases e:zI x.h b with
    | none=>rfl
    | some o=>rw[(Jj e).2.1]at hb;cases hb
   rcases List.mem_append.1 hb with hb | hb
   ·by_cases qC:γ.tag j=none
    ·simp[Ku,qC]at hb
    ·simp only[Ku,if_neg qC]at hb
     obtain⟨rfl,rfl⟩:=Prod.mk.inj (List.mem_singleton.1 hb)
     refine⟨by simp only[kc,if_neg qC];exact bH _ _ _,.inl ⟨rfl,qC⟩,hz _ ?_⟩
     cases e:x.h γ.Mu with
     | none=>rfl
     | some o'=>have:=h5.sub _ o' e;rw[adf qC]at this;cases this
   ·exact⟨kcA hkm b o hb,.inr ⟨o,hb⟩,hz _ (own b o hb).2.2⟩
  ·by_cases qC:γ.tag j=none
   ·simp only[Ku,if_pos qC,List.nil_append];exact hnd.1
   ·simp only[Ku,if_neg qC,List.cons_append,List.nil_append,List.map_cons,List.nodup_cons]
    refine⟨fun hb=>?_,hnd.1⟩
    obtain⟨⟨b,o⟩,q1,q2⟩:=List.mem_map.1 hb
    exact kA b o q1 hkm (htm qC) q2
  ·exfalso
   rcases hm with⟨rfl,qC⟩ | ⟨o',hm⟩
   ·simp only[kc,if_neg qC]at e
    rw[bH]at e
    cases e
    rw[Zp]at ho;cases ho
   ·rw[kcA hkm b o' hm]at e
    cases e
    rw[Fh (hA b _ hm)]at ho;cases ho
 ·by_cases hb':∃o',(b,o')∈A
  ·obtain⟨o',hb'⟩:=hb'
   rw[(own b o' hb').1]at ho;cases ho
   exact Fh (hA b _ hb')
  ·exact absurd ⟨hm,fun o' ho'=>hb' ⟨o',ho'⟩⟩ hn
 ·obtain⟨o,e⟩:=Option.isSome_iff_exists.1 hs
  rcases hkc b o e with⟨q1,q2,_⟩ | q
  ·exact hbm (htm q2) q1
  ·rcases(hk1 b o q).2.2 with q | q
   ·exact hm.2 o q
   ·exact(h5.CO b q).1 hm.1
 ·rw[eY (b:=b) (t:=tmps) (ds:=ds) (k:=k) (cs:=cs) (rest:=rest) ho undef]
  exact wO.rQ this
end rules
end Go.aS

/- Short forms for walks: results, calls of functions that only answer. Conditions: none; over any program. -/
namespace Go.aS
def RI(ρ:Env):List ResultVar→Option (List Value)
 | []=>some []
 | .tmp t::r=>match look ρ t,RI ρ r with
  | some v,some vs=>some (v::vs)
  | _,_=>none
 | .cell _ _::_=>none
theorem TV{P:Program}{h:Hp}{F:ah}{ρ:Env}:∀{rs:List ResultVar} {vs:List Value},RI ρ rs=some vs→rD P h F rs ρ vs
 | [],vs,e=>by simp only[RI,Option.some.injEq]at e;exact e.symm
 | .tmp t::r,vs,e=>by
  simp only[RI]at e
  split at e
  ·rename_i v vs' h1 h2
   cases e
   exact⟨v,vs',rfl,h1,TV h2⟩
  ·cases e
 | .cell _ _::_,vs,e=>by cases e

abbrev Pu(P:Program)(main:Side)(f:FuncId)(args:Array Value)(h:Hp)(u:Value):Prop:=dV P main f args h [] (fun v A=>v=u∧Shut A)

section
variable{P:Program}{main:Side}{fn:Func}{h:Hp}{R:Value→ah→Prop}{e:Exit}{ρ:Env}{F:ah}{ds:List Deferred}
theorem mg{vs:List Value}(hR:R (pack vs) F)(he:e= .ret∨e= .normal:=by first | exact .inl rfl | exact .inr rfl)(hv:RI ρ fn.results.toList=some vs:=by rfl):leave P main fn h R e ρ [] F:=
 OV he (by simp) (TV hv) hR
theorem uZ{u:Value}{vs:List Value}(hu:pack vs=u)(he:e= .ret∨e= .normal:=by first | exact .inl rfl | exact .inr rfl)(hv:RI ρ fn.results.toList=some vs:=by rfl)(hs:Shut F:=by repeat(first | exact Shut.nil | assumption | refine Shut.cons rfl ?_ | refine Shut.app ?_ ?_)):leave P main fn h (fun v A=>v=u∧Shut A) e ρ [] F:=
 mg ⟨hu,hs⟩ he hv

theorem Tc.marked{d:Nat}{K:ah→Prop}{U:Obj→ah}(hl:At d (.deferred (some [])) F U)(H:Tc P main h ds (U (.deferred none)) K):Tc P main h (mark d::ds) F K:=by
 obtain⟨F1,F2,e1,e2⟩:=hl.split
 show tr P h (Instr.takeDeferred d) F fun l F'=>l=[]∧Tc P main h ds F' K
 simp only[Instr.takeDeferred,bind_eq,au]
 refine⟨.deferred (some []),.inr (e1▸by simp),(fun _ _ _=>by simp),rfl,?_⟩
 refine⟨.deferred (some []),F1,F2,e1,(fun _ _ _=>by simp),rfl,rfl,?_⟩
 rw[e2]at H
 exact H
theorem lvm{d:Nat}{U:Obj→ah}(H:leave P main fn h R e ρ ds (U (.deferred none)))(hl:At d (.deferred (some [])) F U:=by repeat(first | exact At.head | apply At.tail | apply At.app)):leave P main fn h R e ρ (mark d::ds) F:=
 ⟨H.1,Tc.marked hl H.2⟩
end
section
variable{x:Cx}{Q:Post}{ρ:Env}{ds:List Deferred}{F:ah}{ops:Array Oper}{i:Nat}{rest:List Nat}{d:Tmp}{ty:TypeId}{pos:String}{bK:Array Edge}{g:Option (Nat×Bool)}{L:ah}
variable{f:FuncId}{args:List Operand}{ts:Array TypeId}{vs:List Value}
theorem cp{u:Value}(H:∀h',Ext x.h h'→fF F h'→Pu x.P x.main f vs.toArray h' u)(K:Ops x ops rest Q ((d,u)::ρ) ds F)(ho:cO ops.toList i=some ⟨some d,.call ⟨.value (.func f),args.toArray,ts⟩,ty,pos,bK,g⟩:=by rfl)[FB x.P f](hv:evs ρ args=some vs:=by rfl)
  (hw:want ops ρ ⟨some d,.call ⟨.value (.func f),args.toArray,ts⟩,ty,pos,bK,g⟩:=by first | exact wn | exact ak rfl rfl rfl) (hd:Nat.blt d x.n=true:=by rfl):Ops x ops (i::rest) Q ρ ds F:=
 Ops.eff (o:=⟨some d,.call ⟨.value (.func f),args.toArray,ts⟩,ty,pos,bK,g⟩) (lQ rfl hv H fun v A' hv=>by
  obtain⟨rfl,hs⟩:=hv
  exact Ops.sb (Sb.left .refl hs) K) (aU ho) hw hd rfl
theorem c0{R':Value→ah→Prop}(H:∀h',Ext x.h h'→fF F h'→dV x.P x.main f vs.toArray h' [] R')(K:∀v A',R' v A'→Ops x ops rest Q ((d,v)::ρ) ds (A'++F))(ho:cO ops.toList i=some ⟨some d,.call ⟨.value (.func f),args.toArray,ts⟩,ty,pos,bK,g⟩:=by rfl)[FB x.P f](hv:evs ρ args=some vs:=by rfl)
  (hw:want ops ρ ⟨some d,.call ⟨.value (.func f),args.toArray,ts⟩,ty,pos,bK,g⟩:=by first | exact wn | exact ak rfl rfl rfl) (hd:Nat.blt d x.n=true:=by rfl):Ops x ops (i::rest) Q ρ ds F:=
 Ops.eff (o:=⟨some d,.call ⟨.value (.func f),args.toArray,ts⟩,ty,pos,bK,g⟩) (lQ rfl hv H fun v A' hv=>K v A' hv) (aU ho) hw hd rfl
theorem cg{A:ah}{U:ah→ah}{R':Value→ah→Prop}(hs:Seg A F U)(H:∀h',Ext x.h h'→fF (U []) h'→dV x.P x.main f vs.toArray h' A R')(K:∀v A',R' v A'→Ops x ops rest Q ((d,v)::ρ) ds (U A'))(ho:cO ops.toList i=some ⟨some d,.call ⟨.value (.func f),args.toArray,ts⟩,ty,pos,bK,g⟩:=by rfl)[FB x.P f](hv:evs ρ args=some vs:=by rfl)
  (hw:want ops ρ ⟨some d,.call ⟨.value (.func f),args.toArray,ts⟩,ty,pos,bK,g⟩:=by first | exact wn | exact ak rfl rfl rfl) (hd:Nat.blt d x.n=true:=by rfl):Ops x ops (i::rest) Q ρ ds F:=
 Ops.eff (o:=⟨some d,.call ⟨.value (.func f),args.toArray,ts⟩,ty,pos,bK,g⟩) (QZ rfl hv hs H fun v A' hv=>K v A' hv) (aU ho) hw hd rfl
end
section
variable{x:Cx}{Q:Post}{ρ:Env}{ds:List Deferred}{F:ah}{ops:Array Oper}{i:Nat}{rest:List Nat}{d:Tmp}{op:Op}{ty:TypeId}{pos:String}{bK:Array Edge}{g:Option (Nat×Bool)}{L:ah}
theorem Jr{d:Nat}{v:Value}(h:look ρ d=some v):look ((d,v)::ρ)=look ρ:=by
 funext t
 show(bif Nat.beq t d then some v else look ρ t)=look ρ t
 cases e:Nat.beq t d with
 | true=>rw[Nat.eq_of_beq_eq_true e,h];rfl
 | false=>rfl
theorem Any.ask{fuel listed d':Nat}{p:Prop}[Decidable p](ht:p→Any x ops L fuel listed Q ((d',.bool true)::ρ) ds F)(hf:¬p→Any x ops L fuel listed Q ((d',.bool false)::ρ) ds F)(hv:look ρ d'=some (.bool (decide p)):=by rfl):Any x ops L fuel listed Q ρ ds F:=by
 by_cases hp:p
 ·have:=ht hp
  have e:look ρ d'=some (.bool true):=by rw[hv];simp[hp]
  unfold Any at this⊢
  rwa[Jr e]at this
 ·have:=hf hp
  have e:look ρ d'=some (.bool false):=by rw[hv];simp[hp]
  unfold Any at this⊢
  rwa[Jr e]at this
variable{f:FuncId}{args:List Operand}{ts:Array TypeId}{vs:List Value}
theorem Va{fuel listed:Nat}{u:Value}(H:∀h',Ext x.h h'→fF F h'→Pu x.P x.main f vs.toArray h' u)(K:Any x ops L fuel (listed||| 2 ^ i) Q ((d,u)::ρ) ds F)(hS:lastT ops i=true∨Keeps L F:=by first | exact .inr (by repeat(first | exact fun _ h=>h | apply Keeps.cons | apply Keeps.app)) | exact .inl (by kernel_rfl))
  (ho:cO ops.toList i=some ⟨some d,.call ⟨.value (.func f),args.toArray,ts⟩,ty,pos,bK,g⟩:=by rfl) [FB x.P f] (hv:evs ρ args=some vs:=by rfl)
  (hw:dR ops (look ρ) ⟨some d,.call ⟨.value (.func f),args.toArray,ts⟩,ty,pos,bK,g⟩ true:=by first | exact an | exact b_ rfl rfl rfl rfl) (hd:Nat.blt d x.n=true:=by rfl) (hr:qx ops listed=[i]:=by kernel_rfl):Any x ops L (fuel+1) listed Q ρ ds F:=
 Any.eff (o:=⟨some d,.call ⟨.value (.func f),args.toArray,ts⟩,ty,pos,bK,g⟩) (lQ rfl hv H fun v A' hv=>by
  obtain⟨rfl,hs⟩:=hv
  exact⟨hS.imp id fun k p hp=>List.mem_append_right _ (k p hp),Any.sb (Sb.left .refl hs) K⟩) hr (aU ho) hw hd rfl
end
section
variable{x:Cx}{Q Q':Post}{ρ:Env}{ds:List Deferred}{F:ah}
theorem PG{K K':Env→List Deferred→ah→Prop}{e:Exit}{ρ:Env}{ds:List Deferred}{F:ah}(h:thn K Q e ρ ds F)(hk:∀ρ ds F,K ρ ds F→K' ρ ds F):thn K' Q e ρ ds F:=by
 cases e <;>first | exact hk _ _ _ h | exact h
theorem W.aa1{σ τ:Type}{c:Code}(C:σ→τ→Prop)(E:σ→τ→Env)(D:σ→τ→ah)(μ:σ→τ→Nat)(s₀:σ)(t₀:τ)(h₀:C s₀ t₀)(he:Sub (E s₀ t₀) ρ)(hF:Sb (D s₀ t₀) F)
  (round:∀s t,C s t→W x c (thn (fun ρ' ds' F'=>ds'=ds∧∃s' t',C s' t'∧μ s' t'<μ s t∧Sub (E s' t') ρ'∧Sb (D s' t') F') Q) (E s t) ds (D s t)):W x (.loop c) Q ρ ds F:=
 W.loop (σ:=σ×τ) (fun p=>C p.1 p.2) (fun p=>E p.1 p.2) (fun p=>D p.1 p.2) (fun p=>μ p.1 p.2) (s₀,t₀) h₀ he hF fun p h=>(round p.1 p.2 h).mono fun _ _ _ _ q=>PG q fun _ _ _ ⟨e,s',t',h1⟩=>⟨e,(s',t'),h1⟩
theorem W.Js{σ τ υ:Type}{c:Code}(C:σ→τ→υ→Prop)(E:σ→τ→υ→Env)(D:σ→τ→υ→ah)(μ:σ→τ→υ→Nat)(s₀:σ)(t₀:τ)(u₀:υ)(h₀:C s₀ t₀ u₀)(he:Sub (E s₀ t₀ u₀) ρ)(hF:Sb (D s₀ t₀ u₀) F)
  (round:∀s t u,C s t u→W x c (thn (fun ρ' ds' F'=>ds'=ds∧∃s' t' u',C s' t' u'∧μ s' t' u'<μ s t u∧Sub (E s' t' u') ρ'∧Sb (D s' t' u') F') Q) (E s t u) ds (D s t u)):W x (.loop c) Q ρ ds F:=
 W.loop (σ:=σ×τ×υ) (fun p=>C p.1 p.2.1 p.2.2) (fun p=>E p.1 p.2.1 p.2.2) (fun p=>D p.1 p.2.1 p.2.2) (fun p=>μ p.1 p.2.1 p.2.2) (s₀,t₀,u₀) h₀ he hF fun p h=>(round p.1 p.2.1 p.2.2 h).mono fun _ _ _ _ q=>PG q fun _ _ _ ⟨e,s',t',u',h1⟩=>⟨e,(s',t',u'),h1⟩
end
theorem Part.Bo{α:Type}{row:α→List Value}{w:Nat}[Rw row w]{c:Array Value}{off i:Nat}{l:List α}{p:α}(h:Part c off (flat row l))(hi:l[i]? =some p)(k:Nat)(hk:k<w):c[off+i*w+k]? =(row p)[k]? :=
 (h.rowP hi).get (by rw[Rw.len];exact hk)

theorem Sl.at{α:Type}{row:α→List Value}{w:Nat}[Rw row w]{h:Hp}{a:Option Addr}{n cap:Nat}{l:List α}{i:Nat}{p:α}(H:Sl h row (.slice a n cap) l)(hi:l[i]? =some p):
  ∃b off c E fz,a=some ⟨b,off,none⟩∧h b=some (.cells c E fz)∧c.extract (off+i*w) (off+i*w+w)=(row p).toArray∧off+i*w+w≤c.size∧∀k,k<w→c[off+i*w+k]? =(row p)[k]? :=by
 have hne:l≠[]:=by rintro rfl;simp at hi
 obtain⟨a',cap',e,hx⟩:=H
 cases e
 obtain⟨b,off,c,E,fz,rfl,hb,hp⟩:=hx hne
 obtain⟨h1,h2⟩:=hp.abd hi
 exact⟨b,off,c,E,fz,rfl,hb,h1,h2,fun k hk=>hp.Bo hi k hk⟩
theorem has{α:Type}{l:List α}{i:Nat}(h:i<l.length):∃p,l[i]? =some p∧l.drop i=p::l.drop (i+1):=⟨l[i],List.getElem?_eq_getElem h,(List.getElem_cons_drop ..).symm⟩
theorem Sl.dA{α:Type}{row:α→List Value}{w:Nat}[Rw row w]{h:Hp}{v:Value}{l:List α}(H:Sl h row v l):∃a cap,v= .slice a l.length cap:=by
 obtain⟨a,cap,e,_⟩:=H
 exact⟨a,cap,e⟩

theorem TW{A B:ah}(h:Sb A B:=by repeat(first | exact Sb.refl | apply Sb.cons | refine Sb.skip rfl ?_ | exact Sb.nil (by assumption))):Sb A B:=h
end Go.aS

/- More laws: slices of arrays, copy, arrays of zeros, results in cells. Conditions: none; over any program. -/
namespace Go.aS
section rules
variable{x:Cx}{Q:Post}{ρ:Env}{ds:List Deferred}{F:ah}{ops:Array Oper}{S:ah→Prop}{i:Nat}{rest:List Nat}{o:Oper}{v:Value}{R:Value→ah→Prop}
theorem NJ{t n E s by':Nat}{z:Value}{zc:Array Value}{y hi:Operand}{b off:Nat}{k:IntKind}{m:Nat}(ho:o.op= .slice t y none (some hi) none)[TD x.P t (.array n E)][TI x.P E s by' z zc](hy:ev ρ y=some (.pointer (some ⟨b,off,none⟩)))(hh:ev ρ hi=some (.int k (m:Int)))(hm:m≤n:=by omega):Yv x S ρ o (.slice (some ⟨b,off,none⟩) m n):=fun e he F hF h' hE=>by
 have e1:(0:Int)≤m∧(m:Int)≤n:=by omega
 simp only[execOp,ho,he y _ hy,he hi _ hh,Instr.sliceAt,Instr.sureAddr,Instr.sliceBounds,Instr.sliceBound,asIntOf,bind_eq,au,bind_assoc,bind_pure,Option.map_none,Option.map_some,aC,dH,if_pos e1,Int.toNat_natCast,Nat.zero_mul,jE,Nat.add_zero,ite_self,Nat.sub_zero]
 exact⟨rfl,rfl⟩
theorem Vb{t E s by':Nat}{z:Value}{zc:Array Value}{y hi:Operand}{a:Option Addr}{k:IntKind}{l cap m:Nat}(ho:o.op= .slice t y none (some hi) none)[TD x.P t (.slice E)][TI x.P E s by' z zc](hy:ev ρ y=some (.slice a l cap))(hh:ev ρ hi=some (.int k (m:Int)))(ha:a.map (·.spot)=some none∨a=none)(hm:m≤cap:=by omega):Yv x S ρ o (.slice a m cap):=fun e he F hF h' hE=>by
 have e1:(0:Int)≤m∧(m:Int)≤cap:=by omega
 have e2:a.map (·.add (0*s))=a:=by
  rcases ha with ha | rfl
  ·cases a with
   | none=>cases ha
   | some a=>simp at ha;simp[jE ha,←ha]
  ·rfl
 simp only[execOp,ho,he y _ hy,he hi _ hh,Instr.sliceAt,Instr.slice,Instr.sliceBounds,Instr.sliceBound,asIntOf,bind_eq,au,bind_assoc,bind_pure,Option.map_none,Option.map_some,aC,dH,if_pos e1,Int.toNat_natCast,e2,ite_self,Nat.sub_zero]
 exact⟨rfl,rfl⟩
theorem Xx{t n E s b s' b':Nat}{z z':Value}{zc zc':Array Value}(ho:o.op= .build t #[])[TD x.P t (.array n E)][TI x.P t s b z zc][TI x.P E s' b' z' zc']:Yv x S ρ o (.agg zc):=fun e he F hF h' hE=>by
 obtain⟨j,_,_,_,_,hz⟩:=TI.out (inferInstance:TI x.P t s b z zc)
 simp only[execOp,ho,Instr.build,bind_eq,au,bind_assoc,bind_pure,fG,aC,dH,hz,List.map_toArray,List.map_nil,Instr.fill]
 exact⟨rfl,rfl⟩

theorem avI{α:Type}{row:α→List Value}{w:Nat}[Rw row w]{t t' E by':Nat}{z:Value}{zc:Array Value}{y yx:Operand}{xv:Value}{b off n cap:Nat}{c:Array Value}{C:TypeId}{l:List α}{U:Obj→ah}(ho:o.op= .call ⟨.builtin .copy, #[y,yx], #[t,t']⟩)[TD x.P t (.slice E)][TI x.P E w by' z zc]
  (hy:ev ρ y=some (.slice (some ⟨b,off,none⟩) n cap)) (hx:ev ρ yx=some xv) (hs:Sl x.h row xv l) (hle:l.length≤n) (hl:At b (.cells c C (0,0)) F U) (hc:off+l.length*w≤c.size)
  (H:R (.int .i64 l.length) (U (.cells (jv c off (flat row l)) C (0,0)))):Ef x ρ o F R:=
 Ef.xW fun e he h' hE=>by
  have hs':=Sl.ext hE hs
  obtain⟨a,cp,rfl⟩:=hs.dA
  have hmin:Nat.min l.length n=l.length:=Nat.min_eq_left hle
  simp only[execOp,ho,resolve,invoke,builtin,Builtin.copy_,List.map_toArray,List.map_cons,List.map_nil,he y _ hy,he yx _ hx,List.getElem?_toArray,List.getElem?_cons_zero,List.getElem?_cons_succ,bind_eq,au,bind_assoc,bind_pure,aC,Builtin.lenOf,dH,hmin]
  refine bJ (DU hs' ?_)
  refine bJ (kV (flat row l) 0 c (Lu l) hl (by rw[jT];omega) ?_)
  exact⟨_,.inl rfl,by simpa[goInt]using H⟩
end rules
theorem Ef.ZJ{x:Cx}{ρ:Env}{F:ah}{o:Oper}{v:Value}{R:Value→ah→Prop}(hy:Yv x (· =F) ρ o v)(H:R v F):Ef x ρ o F R:=fun e he=>
 ⟨F,[],by simp,fun h' e1 e2=>lM (hy e he F rfl h' e1) fun nx F' ⟨h1,h2⟩=>by
  subst h1 h2
  exact⟨F',by simp,H⟩⟩

section
variable{x:Cx}{Q:Post}{ρ:Env}{ds:List Deferred}{F:ah}{ops:Array Oper}{i:Nat}{rest:List Nat}{d:Tmp}{ty:TypeId}{pos:String}{bK:Array Edge}{g:Option (Nat×Bool)}{L:ah}
variable{args:List Operand}{ts:Array TypeId}{vs:List Value}{y:Operand}{fv u:Value}
abbrev PuV(P:Program)(main:Side)(fv:Value)(vs:List Value)(h:Hp)(u:Value):Prop:=gZ P main fv vs h [] (fun v A=>v=u∧Shut A)
theorem Xy{o:Oper}{R:Value→ah→Prop}(ho:o.op= .call ⟨.value y,args.toArray,ts⟩)(hy:ev ρ y=some fv)(hv:evs ρ args=some vs)(H:∀h',Ext x.h h'→fF F h'→PuV x.P x.main fv vs h' u)(K:∀A,Shut A→R u (A++F)):Ef x ρ o F R:=
 tJ ho hy hv (Seg.head (A:=[]) (G:=F)) H fun v A' hv=>by
  obtain⟨rfl,hs⟩:=hv
  exact K A' hs
theorem acv{fuel listed:Nat}(H:∀h',Ext x.h h'→fF F h'→PuV x.P x.main fv vs h' u)(K:Any x ops L fuel (listed||| 2 ^ i) Q ((d,u)::ρ) ds F)(hS:lastT ops i=true∨Keeps L F:=by first | exact .inr (by repeat(first | exact fun _ h=>h | apply Keeps.cons | apply Keeps.app)) | exact .inl (by kernel_rfl))
  (ho:cO ops.toList i=some ⟨some d,.call ⟨.value y,args.toArray,ts⟩,ty,pos,bK,g⟩:=by rfl) (hy:ev ρ y=some fv:=by rfl) (hv:evs ρ args=some vs:=by rfl)
  (hw:dR ops (look ρ) ⟨some d,.call ⟨.value y,args.toArray,ts⟩,ty,pos,bK,g⟩ true:=by first | exact an | exact b_ rfl rfl rfl rfl) (hd:Nat.blt d x.n=true:=by rfl) (hr:qx ops listed=[i]:=by kernel_rfl):Any x ops L (fuel+1) listed Q ρ ds F:=
 Any.eff (o:=⟨some d,.call ⟨.value y,args.toArray,ts⟩,ty,pos,bK,g⟩) (Xy rfl hy hv H fun A hs=>⟨hS.imp id fun k p hp=>List.mem_append_right _ (k p hp),Any.sb (Sb.left .refl hs) K⟩) hr (aU ho) hw hd rfl
theorem Ops.NK{t E s b len:Nat}{z:Value}{zc:Array Value}{parts:List (Nat×Operand)}{cs:Array Value}(H:∀β,Ops x ops rest Q ((d,.slice (some ⟨β,0,none⟩) len len)::ρ) ds ((β,.cells cs E (0,0))::F))(ho:cO ops.toList i=some ⟨some d,.buildSlice t len parts.toArray,ty,pos,bK,g⟩:=by rfl)[TD x.P t (.slice E)][TI x.P E s b z zc](hv:evs ρ (parts.map (·.2))=some vs:=by rfl)(hls:0<len*s:=by decide)(hl:len*s≤2 ^ 24:=by decide)
  (hf:Instr.fill (fun i=>some (i*s,s)) ((List.range (len*s)).map (fun i=>zc[i % zc.size]!)).toArray ((parts.map (·.1)).zip vs)=some cs:=by rfl)
  (hw:want ops ρ ⟨some d,.buildSlice t len parts.toArray,ty,pos,bK,g⟩:=by first | exact wn | exact ak rfl rfl rfl) (hd:Nat.blt d x.n=true:=by rfl):Ops x ops (i::rest) Q ρ ds F:=
 Ops.eff (o:=⟨some d,.buildSlice t len parts.toArray,ty,pos,bK,g⟩) (DN rfl hv hls hl (by rw[show(Array.range (len*s)).map (zc[· % zc.size]!)=((List.range (len*s)).map (fun i=>zc[i % zc.size]!)).toArray by apply Array.ext';simp];exact hf) fun β _ _=>H β) (aU ho) hw hd rfl
theorem Ops.aeO{t E s b:Nat}{z:Value}{zc:Array Value}(H:∀β,Ops x ops rest Q ((d,.slice (some ⟨β,0,none⟩) 0 0)::ρ) ds ((β,.cells #[] E (0,0))::F))(ho:cO ops.toList i=some ⟨some d,.buildSlice t 0 #[],ty,pos,bK,g⟩:=by rfl)[TD x.P t (.slice E)][TI x.P E s b z zc]
  (hw:want ops ρ ⟨some d,.buildSlice t 0 #[],ty,pos,bK,g⟩:=by first | exact wn | exact ak rfl rfl rfl) (hd:Nat.blt d x.n=true:=by rfl):Ops x ops (i::rest) Q ρ ds F:=
 Ops.eff (o:=⟨some d,.buildSlice t 0 #[],ty,pos,bK,g⟩) (Kq rfl fun β _ _=>H β) (aU ho) hw hd rfl
theorem cgv{A:ah}{U:ah→ah}{R':Value→ah→Prop}(hs:Seg A F U)(H:∀h',Ext x.h h'→fF (U []) h'→gZ x.P x.main fv vs h' A R')(K:∀v A',R' v A'→Ops x ops rest Q ((d,v)::ρ) ds (U A'))(ho:cO ops.toList i=some ⟨some d,.call ⟨.value y,args.toArray,ts⟩,ty,pos,bK,g⟩:=by rfl)(hy:ev ρ y=some fv:=by rfl)(hv:evs ρ args=some vs:=by rfl)
  (hw:want ops ρ ⟨some d,.call ⟨.value y,args.toArray,ts⟩,ty,pos,bK,g⟩:=by first | exact wn | exact ak rfl rfl rfl) (hd:Nat.blt d x.n=true:=by rfl):Ops x ops (i::rest) Q ρ ds F:=
 Ops.eff (o:=⟨some d,.call ⟨.value y,args.toArray,ts⟩,ty,pos,bK,g⟩) (tJ rfl hy hv hs H fun v A' r=>K v A' r) (aU ho) hw hd rfl
theorem a2{fuel listed i j d d':Nat}{op op':Op}{ty':TypeId}{pos':String}{RJ:Array Edge}{g':Option (Nat×Bool)}{v w:Value}(ho:cO ops.toList i=some ⟨some d,op,ty,pos,bK,g⟩)(ho':cO ops.toList j=some ⟨some d',op',ty',pos',RJ,g'⟩)
  (hy:Yv x (· =F) ρ ⟨some d,op,ty,pos,bK,g⟩ v) (hy2:Yv x (· =F) ((d',w)::ρ) ⟨some d,op,ty,pos,bK,g⟩ v) (hy':Yv x (· =F) ρ ⟨some d',op',ty',pos',RJ,g'⟩ w) (aeP:Yv x (· =F) ((d,v)::ρ) ⟨some d',op',ty',pos',RJ,g'⟩ w)
  (hw:dR ops (look ρ) ⟨some d,op,ty,pos,bK,g⟩ true) (hw2:dR ops (look ((d',w)::ρ)) ⟨some d,op,ty,pos,bK,g⟩ true) (hw':dR ops (look ρ) ⟨some d',op',ty',pos',RJ,g'⟩ true) (aeQ:dR ops (look ((d,v)::ρ)) ⟨some d',op',ty',pos',RJ,g'⟩ true)
  (hd:Nat.blt d x.n=true) (hd':Nat.blt d' x.n=true) (hn:cu op=true) (hn':cu op'=true)
  (H:Any x ops [] fuel ((listed||| 2 ^ i)||| 2 ^ j) Q ((d',w)::(d,v)::ρ) ds F) (hne:Nat.beq d d'=false:=by rfl)
  (hr:qx ops listed=[i,j]:=by kernel_rfl) (hr1:qx ops (listed||| 2 ^ i)=[j]:=by kernel_rfl) (hr2:qx ops (listed||| 2 ^ j)=[i]:=by kernel_rfl):Any x ops [] (fuel+2) listed Q ρ ds F:=by
 have hk:∀F:ah,Keeps [] F:=fun _ p hp=>by cases hp
 refine Any.WB (o:=⟨some d,op,ty,pos,bK,g⟩) (o':=⟨some d',op',ty',pos',RJ,g'⟩) hr (aU ho) (aU ho') hw hw' hd hd' hn hn' (Ef.ZJ hy ⟨.inr (hk _),?_⟩) (Ef.ZJ hy' ⟨.inr (hk _),?_⟩)
 ·exact Any.eff (o:=⟨some d',op',ty',pos',RJ,g'⟩) (Ef.ZJ aeP ⟨.inr (hk _),H⟩) hr1 (aU ho') aeQ hd' hn'
 ·refine Any.eff (o:=⟨some d,op,ty,pos,bK,g⟩) (Ef.ZJ hy2 ⟨.inr (hk _),?_⟩) hr2 (aU ho) hw2 hd hn
  have e1:(listed||| 2 ^ j)||| 2 ^ i=(listed||| 2 ^ i)||| 2 ^ j:=by rw[Nat.or_assoc,Nat.or_comm (2 ^ j),←Nat.or_assoc]
  have e2:look ((d,v)::(d',w)::ρ)=look ((d',w)::(d,v)::ρ):=by
   funext t
   show(bif Nat.beq t d then some v else bif Nat.beq t d' then some w else look ρ t)=(bif Nat.beq t d' then some w else bif Nat.beq t d then some v else look ρ t)
   cases h1:Nat.beq t d with
   | false=>rfl
   | true=>
    have:t=d:=Nat.eq_of_beq_eq_true h1
    subst this
    rw[hne];rfl
  rw[e1]
  unfold Any at H⊢
  show DI _ _ _ _ _ _ (look ((d,v)::(d',w)::ρ)) _
  rw[e2]
  exact H
end
/-! ### Results that lie in cells -/
section
variable{P:Program}{h:Hp}{F:ah}{ρ:Env}{r:List ResultVar}{vs:List Value}
theorem zJ:rD P h F [] ρ []:=rfl
theorem RN{t:Tmp}{v:Value}(H:rD P h F r ρ vs)(hv:look ρ t=some v:=by rfl):rD P h F (.tmp t::r) ρ (v::vs):=⟨v,vs,rfl,hv,H⟩
theorem D_{a:Tmp}{t n b:Nat}{c:Array Value}{E:TypeId}{fz:Nat×Nat}(H:rD P h F r ρ vs)[i:AG P t n](ha:look ρ a=some (.pointer (some ⟨b,0,none⟩)):=by rfl)(hl:(b,Obj.cells c E fz)∈F:=by repeat(first | exact List.Mem.head _ | apply List.Mem.tail))(hn:c.size=n:=by first | rfl | assumption):rD P h F (.cell a t::r) ρ (.agg c::vs):=
 ⟨_,vs,b,0,c,E,fz,rfl,ha,.inr hl,.inr ⟨n,i,by omega,by congr 1;apply Array.ext';simp[←hn]⟩,H⟩
theorem rSc{a:Tmp}{t b:Nat}{v:Value}{c:Array Value}{E:TypeId}{fz:Nat×Nat}(H:rD P h F r ρ vs)[i:SC P t](ha:look ρ a=some (.pointer (some ⟨b,0,none⟩)):=by rfl)(hl:(b,Obj.cells c E fz)∈F:=by repeat(first | exact List.Mem.head _ | apply List.Mem.tail))(hv:c[0]? =some v:=by first | rfl | assumption):rD P h F (.cell a t::r) ρ (v::vs):=
 ⟨v,vs,b,0,c,E,fz,rfl,ha,.inr hl,.inl ⟨i,hv⟩,H⟩
variable{main:Side}{fn:Func}{R:Value→ah→Prop}{e:Exit}
theorem QJ(hR:R (pack vs) F)(he:e= .ret∨e= .normal:=by first | exact .inl rfl | exact .inr rfl)(hv:rD P h F fn.results.toList ρ vs:=by(repeat(first | exact zJ | refine RN ?_ | refine D_ ?_ | refine rSc ?_))):leave P main fn h R e ρ [] F:=
 OV he (by simp) hv hR
end
end Go.aS

/- Methods by their rows; nil interfaces. Conditions: none; over any program. -/
namespace Go.aS
theorem MV.row{P:Program}{t:TypeId}{name:String}{f:FuncId}(hm:((P.info? t).bind fun i=>i.methods.find? (·.name==name)).map (fun m=>(m.path.toList.isEmpty,m.func))=some (true,some (f,false)))
  (hd:(P.underlying t).map (fun d=>match d with | .pointer _=>false | _=>true)=some true):MV P t name f:=⟨fun h F v Q H=>by
 obtain⟨m,h1,h2⟩:=Option.map_eq_some_iff.1 hm
 obtain⟨i,h3,h4⟩:=Option.bind_eq_some_iff.1 h1
 obtain⟨d,h5,h6⟩:=Option.map_eq_some_iff.1 hd
 simp only[Prod.mk.injEq]at h2
 have hp:m.path.toList=[]:=by simpa using h2.1
 have:TD P t d:=⟨h5⟩
 rw[show P.types.size+Made.depth=(P.types.size+99)+1 from rfl]
 generalize P.types.size+99=n
 simp only[method,bind_eq,au,bind_assoc,dJ h3,h4,hp,follow,bind_pure,h2.2,receiverAt,aC]
 cases d <;>first | (simp at h6;done) | (simp only[Place.get,au,bind_pure];exact H)⟩

def aeR:TypeDesc→Bool
 | .interface _=>false
 | _=>true
class NI(P:Program)(t:TypeId):Prop where
 out:(P.underlying t).map aeR=some true
theorem ZK{x:Cx}{ρ:Env}{S:ah→Prop}{o:Oper}{t:TypeId}{y:Operand}{u:Value}(ho:o.op= .makeInterface t y)[i:NI x.P t](hy:ev ρ y=some u):Yv x S ρ o (.iface t u):=by
 obtain⟨d,h1,h2⟩:=Option.map_eq_some_iff.1 i.out
 have:TD x.P t d:=⟨h1⟩
 exact Tj ho (fun ms e=>by subst e;cases h2) hy
theorem eq_nil{P:Program}{t:TypeId}{ms:Array (String×TypeId)}[TD P t (.interface ms)]{h:Hp}{F:ah}{β:Type}{f:Bool→Sem β}{Q:β→ah→Prop}(d:Nat):tr P h ((Op.equalIn (d+1) t .nilIface .nilIface).bind f) F Q=tr P h (f true) F Q:=by
 simp only[Op.equalIn,bind_eq,au,bind_assoc,bind_pure,aC]
theorem ZL{P:Program}{t t₁:TypeId}{u:Value}{ms:Array (String×TypeId)}[TD P t (.interface ms)]{h:Hp}{F:ah}{β:Type}{f:Bool→Sem β}{Q:β→ah→Prop}(d:Nat):tr P h ((Op.equalIn (d+1) t (.iface t₁ u) .nilIface).bind f) F Q=tr P h (f false) F Q:=by
 simp only[Op.equalIn,bind_eq,au,bind_assoc,bind_pure,aC]
theorem CU(t:TypeId)(a b:Value):∃d,Op.equal t a b=Op.equalIn (d+1) t a b:=⟨9999,rfl⟩

section
variable{x:Cx}{Q:Post}{ρ:Env}{ds:List Deferred}{F:ah}{ops:Array Oper}{S:ah→Prop}{i:Nat}{rest:List Nat}{o:Oper}{v:Value}{d:Tmp}{ty:TypeId}{pos:String}{bK:Array Edge}{g:Option (Nat×Bool)}{L:ah}
theorem abK{t t':TypeId}{ms:Array (String×TypeId)}{y:Operand}(ho:o.op= .binOp .eql t y (.const .nilIface) t')[TD x.P t (.interface ms)](hy:ev ρ y=some .nilIface):Yv x S ρ o (.bool true):=fun e he F hF h' hE=>by
 have hc:e (.const .nilIface)= .nilIface:=he _ _ rfl
 have hg:eqGuard .eql t y (.const .nilIface) .nilIface .nilIface= .pure ():=by
  simp[eqGuard,au]
 obtain⟨dd,hdd⟩:=CU t .nilIface .nilIface
 simp only[execOp,ho,he y _ hy,hc,hg,binOp,hdd,bind_eq,au,bind_assoc,bind_pure,eq_nil]
 exact⟨rfl,rfl⟩
theorem Xz{t t' t₁:TypeId}{u:Value}{ms:Array (String×TypeId)}{y:Operand}(ho:o.op= .binOp .eql t y (.const .nilIface) t')[TD x.P t (.interface ms)](hy:ev ρ y=some (.iface t₁ u)):Yv x S ρ o (.bool false):=fun e he F hF h' hE=>by
 have hc:e (.const .nilIface)= .nilIface:=he _ _ rfl
 have hg:eqGuard .eql t y (.const .nilIface) (.iface t₁ u) .nilIface= .pure ():=by
  simp[eqGuard,au]
 obtain⟨dd,hdd⟩:=CU t (.iface t₁ u) .nilIface
 simp only[execOp,ho,he y _ hy,hc,hg,binOp,hdd,bind_eq,au,bind_assoc,bind_pure,ZL]
 exact⟨rfl,rfl⟩
variable{args:List Operand}{ts:Array TypeId}{vs:List Value}{y:Operand}{name:String}{t:TypeId}{u r:Value}{f:FuncId}
end
end Go.aS

/- Functions of the library without a body: asked of the program's tables. Conditions: none; over any program. -/
namespace Go.aS
def J_{α:Type}(P:Program):Sem α→Option α
 | .pure a=>some a
 | .program k=>J_ P (k P)
 | _=>none
theorem oU{α:Type}{P:Program}{h:Hp}:∀{s:Sem α} {a:α} {F:ah} {Q:α→ah→Prop},J_ P s=some a→Q a F→tr P h s F Q
 | .pure b,a,F,Q,e,H=>by simp only[J_,Option.some.injEq]at e;subst e;exact H
 | .program k,a,F,Q,e,H=>oU (s:=k P) e H
 | .load ..,_,_,_,e,_=>by cases e
 | .store ..,_,_,_,e,_=>by cases e
 | .new ..,_,_,_,e,_=>by cases e
 | .shape ..,_,_,_,e,_=>by cases e
 | .freeze ..,_,_,_,e,_=>by cases e
 | .frozen ..,_,_,_,e,_=>by cases e
 | .getObj ..,_,_,_,e,_=>by cases e
 | .setObj ..,_,_,_,e,_=>by cases e
 | .choose ..,_,_,_,e,_=>by cases e
 | .sys ..,_,_,_,e,_=>by cases e
 | .mark ..,_,_,_,e,_=>by cases e
 | .halt _,_,_,_,e,_=>by cases e

class XF(P:Program)(f:FuncId)(e:outParam (Array Value→Sem Value)):Prop where
 out:∃fn,P.funcs[f]? =some fn∧(fn.name== "runtime.NumGoroutine")=false∧fn.body.isNone=true∧(Extern.findNext fn).isNone=true∧Extern.find fn=some e

theorem PI{P:Program}{main:Side}{h:Hp}{F:ah}{f:FuncId}{e:Array Value→Sem Value}[i:XF P f e]{args:Array Value}{R:Value→ah→Prop}(H:tr P h (e args) F R):tr P h (callFunc f args) F (ni P main h R):=by
 obtain⟨fn,h1,h2,h3,h4,h5⟩:=i.out
 have h4':Extern.findNext fn=none:=by simpa using h4
 simp only[callFunc,bind_eq,au,l7,h1,h2,h3,h4',h5,Bool.false_eq_true,if_false,if_true]
 refine⟨rfl,?_⟩
 show tr P h ((e args).bind fun v=>.pure (Next.value v)) F (ni P main h R)
 exact bJ (lM H fun v F' r=>r)

section
variable{x:Cx}{Q:Post}{ρ:Env}{ds:List Deferred}{F:ah}{ops:Array Oper}{i:Nat}{rest:List Nat}{d:Tmp}{ty:TypeId}{pos:String}{bK:Array Edge}{g:Option (Nat×Bool)}
variable{args:List Operand}{ts:Array TypeId}{vs:List Value}{f:FuncId}{e:Array Value→Sem Value}{y:Operand}{name:String}{t:TypeId}{u r u':Value}
theorem cx{R:Value→ah→Prop}(H:∀h',Ext x.h h'→tr x.P h' (e vs.toArray) F R)(K:∀v F',R v F'→Ops x ops rest Q ((d,v)::ρ) ds F')(ho:cO ops.toList i=some ⟨some d,.call ⟨.value (.func f),args.toArray,ts⟩,ty,pos,bK,g⟩:=by rfl)[XF x.P f e](hv:evs ρ args=some vs:=by rfl)
  (hw:want ops ρ ⟨some d,.call ⟨.value (.func f),args.toArray,ts⟩,ty,pos,bK,g⟩:=by first | exact wn | exact ak rfl rfl rfl) (hd:Nat.blt d x.n=true:=by rfl):Ops x ops (i::rest) Q ρ ds F:=
 Ops.eff (o:=⟨some d,.call ⟨.value (.func f),args.toArray,ts⟩,ty,pos,bK,g⟩) (fun ee he=>⟨F,[],by simp,fun h' e1 e2=>by
  have e3:ee (.func f)= .func (.func f) #[] #[]:=he _ _ rfl
  simp only[execOp,resolve,Deferred.ofValue,e3,bind_eq,au,bind_pure,invoke,List.map_toArray,lN he hv,List.append_toArray,List.nil_append,List.append_nil]
  exact PI (lM (H h' e1) fun v F' q=>⟨F',by simp,K v F' q⟩)⟩) (aU ho) hw hd rfl
theorem cxp(hp:J_ x.P (e vs.toArray)=some r)(K:Ops x ops rest Q ((d,r)::ρ) ds F)(ho:cO ops.toList i=some ⟨some d,.call ⟨.value (.func f),args.toArray,ts⟩,ty,pos,bK,g⟩:=by rfl)[XF x.P f e](hv:evs ρ args=some vs:=by rfl)
  (hw:want ops ρ ⟨some d,.call ⟨.value (.func f),args.toArray,ts⟩,ty,pos,bK,g⟩:=by first | exact wn | exact ak rfl rfl rfl) (hd:Nat.blt d x.n=true:=by rfl):Ops x ops (i::rest) Q ρ ds F:=
 cx (R:=fun v F'=>v=r∧F'=F) (fun h' _=>oU hp ⟨rfl,rfl⟩) (fun v F' ⟨h1,h2⟩=>by subst h1 h2;exact K) ho hv hw hd
theorem cix(hm:J_ x.P (method (x.P.types.size+Made.depth) t u name)=some (f,u'))(hp:J_ x.P (e (u'::vs).toArray)=some r)(K:Ops x ops rest Q ((d,r)::ρ) ds F)(ho:cO ops.toList i=some ⟨some d,.call ⟨.invoke y name,args.toArray,ts⟩,ty,pos,bK,g⟩:=by rfl)[XF x.P f e](hy:ev ρ y=some (.iface t u):=by rfl)(hv:evs ρ args=some vs:=by rfl)
  (hw:want ops ρ ⟨some d,.call ⟨.invoke y name,args.toArray,ts⟩,ty,pos,bK,g⟩:=by first | exact wn | exact ak rfl rfl rfl) (hd:Nat.blt d x.n=true:=by rfl):Ops x ops (i::rest) Q ρ ds F:=
 Ops.eff (o:=⟨some d,.call ⟨.invoke y name,args.toArray,ts⟩,ty,pos,bK,g⟩) (fun ee he=>⟨F,[],by simp,fun h' e1 e2=>by
  have e3:((#[Value.iface t u]++vs.toArray)[0]? :Option Value)=some (.iface t u):=by simp
  have e4:(#[Value.iface t u]++vs.toArray).extract 1 (#[Value.iface t u]++vs.toArray).size=vs.toArray:=by
   apply Array.ext'
   simp
  simp only[execOp,resolve,he y _ hy,bind_eq,au,bind_pure,List.map_toArray,lN he hv,invoke,e3,e4,callMethod,l7]
  refine bJ (oU hm ?_)
  have e5: #[u']++vs.toArray=(u'::vs).toArray:=by simp
  simp only[e5]
  exact PI (oU hp ⟨F,by simp,K⟩)⟩) (aU ho) hw hd rfl
end
end Go.aS

/- Quiet operations in walks through a library. Conditions: none; over any program. -/
namespace Go.aS
theorem TY{α:Type}{P:Program}{w:World}{es:Array Event}:∀{s:Sem α} {a:α},J_ P s=some a→s.runT P w es=(.ok a w,es)
  | .pure b,a,e=>by simp only[J_,Option.some.injEq]at e;subst e;rfl
  | .program k,a,e=>TY (s:=k P) e
  | .load ..,_,e=>by cases e
  | .store ..,_,e=>by cases e
  | .new ..,_,e=>by cases e
  | .shape ..,_,e=>by cases e
  | .freeze ..,_,e=>by cases e
  | .frozen ..,_,e=>by cases e
  | .getObj ..,_,e=>by cases e
  | .setObj ..,_,e=>by cases e
  | .choose ..,_,e=>by cases e
  | .sys ..,_,e=>by cases e
  | .mark ..,_,e=>by cases e
  | .halt _,_,e=>by cases e

def Pv(x:Lx)(ρ:Env)(o:Oper)(v:Value):Prop:=∀e,Kn1 ρ e→J_ x.P (execOp e o)=some (.value v)
theorem Pv.cv{x:Lx}{ρ:Env}{o:Oper}{v:Value}(h:Pv x ρ o v):Cv x ρ o v:=fun e he=>⟨#[],rfl,fun w=>TY (h e he)⟩

section
variable{x:Lx}{ρ:Env}{o:Oper}{v:Value}
theorem aj{y:Operand}(ho:o.op= .move y)(hy:ev ρ y=some v):Pv x ρ o v:=fun e he=>by simp only[execOp,ho,he y v hy];rfl
theorem aH{y:Operand}(ho:o.op= .assign y)(hy:ev ρ y=some v):Pv x ρ o v:=fun e he=>by simp only[execOp,ho,he y v hy];rfl
theorem eP{c a b:Operand}(ho:o.op= .pick c a b)(hc:ev ρ c=some (.bool true))(hy:ev ρ a=some v):Pv x ρ o v:=fun e he=>by simp only[execOp,ho,he c _ hc,he a v hy];rfl
theorem dh{c a b:Operand}(ho:o.op= .pick c a b)(hc:ev ρ c=some (.bool false))(hy:ev ρ b=some v):Pv x ρ o v:=fun e he=>by simp only[execOp,ho,he c _ hc,he b v hy];rfl
theorem aK{y:Operand}{a:Addr}(ho:o.op= .nilCheck y)(hy:ev ρ y=some (.pointer (some a))):Pv x ρ o (.pointer (some a)):=fun e he=>by simp only[execOp,ho,he y _ hy];rfl
theorem XA{t:TypeId}{y:Operand}{b:Bool}(ho:o.op= .unOp .not t y)(hy:ev ρ y=some (.bool b)):Pv x ρ o (.bool (!b)):=fun e he=>by simp only[execOp,ho,he y _ hy];rfl
theorem zK{op:BinOp}{t t':TypeId}{y z:Operand}{k k':IntKind}{a b:Int}{u:Value}(ho:o.op= .binOp op t y z t')(hy:ev ρ y=some (.int k a))(hz:ev ρ z=some (.int k' b))(h:binOp op t (.int k a) (.int k' b)= .pure u):Pv x ρ o u:=fun e he=>by
  have hg:eqGuard op t y z (.int k a) (.int k' b)= .pure ():=by
    unfold eqGuard
    split <;>rfl
  simp only[execOp,ho,he y _ hy,he z _ hz,hg,bind_eq,au,bind_assoc,bind_pure,h]
  rfl
theorem rU{t t':TypeId}{y z:Operand}{k:IntKind}{a b:Int}(ho:o.op= .binOp .add t y z t')(hy:ev ρ y=some (.int k a))(hz:ev ρ z=some (.int k b)):Pv x ρ o (.int k (k.wrap (a+b))):=zK ho hy hz (by cases k <;>rfl)
theorem wW{t t':TypeId}{y z:Operand}{k:IntKind}{a b:Int}(ho:o.op= .binOp .sub t y z t')(hy:ev ρ y=some (.int k a))(hz:ev ρ z=some (.int k b)):Pv x ρ o (.int k (k.wrap (a-b))):=zK ho hy hz (by cases k <;>rfl)
theorem PL{t t':TypeId}{y z:Operand}{k:IntKind}{a b:Int}(ho:o.op= .binOp .lss t y z t')(hy:ev ρ y=some (.int k a))(hz:ev ρ z=some (.int k b)):Pv x ρ o (.bool (decide (a<b))):=zK ho hy hz (by cases k <;>rfl)
theorem Ea{t t':TypeId}{y z:Operand}{k:IntKind}{a b:Int}(ho:o.op= .binOp .gtr t y z t')(hy:ev ρ y=some (.int k a))(hz:ev ρ z=some (.int k b)):Pv x ρ o (.bool (decide (b<a))):=zK ho hy hz (by cases k <;>rfl)
theorem kF{t t':TypeId}{y z:Operand}{k:IntKind}{a b:Int}(ho:o.op= .binOp .eql t y z t')(hy:ev ρ y=some (.int k a))(hz:ev ρ z=some (.int k b)):Pv x ρ o (.bool (decide (a=b))):=zK ho hy hz (by rw[←Ii];cases k <;>rfl)
theorem jH{t t':TypeId}{y z:Operand}{k:IntKind}{a b:Int}(ho:o.op= .binOp .neq t y z t')(hy:ev ρ y=some (.int k a))(hz:ev ρ z=some (.int k b)):Pv x ρ o (.bool (decide (a≠b))):=zK ho hy hz (by
    have:decide (a≠b)=(a !=b):=by by_cases h:a=b <;>simp[h]
    rw[this];cases k <;>rfl)
theorem Eb{t t':TypeId}{y z:Operand}{k k':IntKind}{a b:Int}(ho:o.op= .binOp .shr t y z t')(hy:ev ρ y=some (.int k a))(hz:ev ρ z=some (.int k' b))(hb:0≤b):Pv x ρ o (.int k (a.fdiv (2 ^ (min b.toNat k.bits)))):=
  zK ho hy hz (by
                     have:¬b<0:=by omega
                     simp only[binOp,Op.shift,if_neg this];rfl)
theorem jI{t t':TypeId}{y z:Operand}{k:IntKind}{a b:Int}(ho:o.op= .binOp .and t y z t')(hy:ev ρ y=some (.int k a))(hz:ev ρ z=some (.int k b)):Pv x ρ o (.int k (bits .and k a b)):=zK ho hy hz (by cases k <;>rfl)
theorem XB{t t':TypeId}{y z:Operand}{k:IntKind}{a b:Int}(ho:o.op= .binOp .or t y z t')(hy:ev ρ y=some (.int k a))(hz:ev ρ z=some (.int k b)):Pv x ρ o (.int k (bits .or k a b)):=zK ho hy hz (by cases k <;>rfl)
theorem PN{t t':TypeId}{y z:Operand}{k:IntKind}{a b:Int}(ho:o.op= .binOp .andNot t y z t')(hy:ev ρ y=some (.int k a))(hz:ev ρ z=some (.int k b)):Pv x ρ o (.int k (bits .andNot k a b)):=zK ho hy hz (by cases k <;>rfl)

theorem yc{P:Program}{t:TypeId}{d:TypeDesc}[i:TD P t d]{β:Type}{f:TypeDesc→Sem β}:J_ P ((underlying t).bind f)=J_ P (f d):=by
  simp only[underlying,program,bind_eq,au,Sem.bind,J_,i.out]
theorem wX{t t':TypeId}{d:TypeDesc}{y:Operand}{k k':IntKind}{n:Int}(ho:o.op= .convert t t' y)[TD x.P t d][TD x.P t' (.int k')](hy:ev ρ y=some (.int k n)):Pv x ρ o (.int k' (k'.wrap n)):=fun e he=>by
  simp only[execOp,ho,he y _ hy,convert,Conv.intToInt,bind_eq,au,bind_assoc,bind_pure,yc]
  cases d <;>rfl
theorem aF{s f off' ft:Nat}{a:Operand}{b off:Nat}(ho:o.op= .fieldAddr s a f)[i:FA x.P s f off' ft](ha:ev ρ a=some (.pointer (some ⟨b,off,none⟩))):Pv x ρ o (.pointer (some ⟨b,off+off',none⟩)):=fun e he=>by
  obtain⟨fs,fl,j,h1,h2,h3,h4,h5,h6⟩:=i.out
  have hu:TD x.P s (.struct fs):=⟨h1⟩
  subst h4
  have ht:∀{β:Type} {f:TypeInfo→Sem β},J_ x.P ((typeInfo fl.type).bind f)=J_ x.P (f j):=fun{β f}=>by
    simp only[typeInfo,program,bind_eq,au,Sem.bind,J_,h5]
  simp only[execOp,ho,he a _ ha,Instr.fieldAt,Instr.sureAddr,fieldPlace,sizeOf,bind_eq,au,bind_assoc,bind_pure,yc,h2,ht,if_neg h6,jE,h3]
  rfl
end
end Go.aS

/- Entries of the model's in walks through a library: each is an act. Conditions: none; over any program. -/
namespace Go.aS
open Go.Conc (events_callFunc_extern seen_entry)
section
variable{P:Program}{f:FuncId}{e:Array Value→Sem Value}{args:Array Value}{w w':World}
theorem T_[i:XF P f e]{v:Value}{evs:Array Event}(hrun:(e args).run P w= .ok v w')(hev:(e args).events P w #[⟨.mark (.extern f),false,true⟩]= #[⟨.mark (.extern f),false,true⟩]++evs)
  (hs:∀x∈evs,x.sync=true∧∀g,x.loc≠ .mark (.extern g)):∃es,(callFunc f args).runT P w #[]=(.ok (.value v) w',es)∧∀fn,seen P fn es=evs:=by
 obtain⟨fn,h1,h2,h3,h4,h5⟩:=i.out
 have h4':Extern.findNext fn=none:=by simpa using h4
 refine⟨#[⟨.mark (.extern f),false,true⟩]++evs,?_,fun fn'=>seen_entry _ _ _ hs⟩
 rw[Sem.runT_eq,run_callFunc_extern h1 h2 h3 h4' h5,hrun,events_callFunc_extern h1 h2 h3 h4' h5]
 simp only[List.push_toArray,List.nil_append]
 rw[hev]
 rfl
theorem PO[i:XF P f e](hrun:(e args).run P w= .halt .blocked w'):∃es,(callFunc f args).runT P w #[]=(.halt .blocked w',es):=by
 obtain⟨fn,h1,h2,h3,h4,h5⟩:=i.out
 have h4':Extern.findNext fn=none:=by simpa using h4
 refine⟨(callFunc f args).events P w #[],?_⟩
 rw[Sem.runT_eq,run_callFunc_extern h1 h2 h3 h4' h5,hrun]
 rfl
end
theorem rV{ρ:Env}{ee:Operand→Value}(he:Kn1 ρ ee){o:Oper}{f:FuncId}{args:List Operand}{ts:Array TypeId}{vs:List Value}(hop:o.op= .call ⟨.value (.func f),args.toArray,ts⟩)(hv:evs ρ args=some vs):execOp ee o=callFunc f vs.toArray:=by
 have e3:ee (.func f)= .func (.func f) #[] #[]:=he _ _ rfl
 unfold execOp
 simp only[hop,resolve,Deferred.ofValue,e3,bind_eq,au,bind_pure,invoke,List.map_toArray,lN he hv,List.append_toArray,List.nil_append,List.append_nil]

section
variable{x:Lx}{Q:kD x.π}{ρ:Env}{ds:List Deferred}{s:x.π.S}{ops:Array Oper}{i:Nat}{rest:List Nat}
def Yields(P:Program)(f:FuncId)(s:Sem Value)(w:World)(v:Value)(w':World)(evs:Array Event):Prop:=
 s.run P w= .ok v w'∧s.events P w #[⟨.mark (.extern f),false,true⟩]= #[⟨.mark (.extern f),false,true⟩]++evs∧∀x∈evs,x.sync=true∧∀g,x.loc≠ .mark (.extern g)

theorem LO.ext(a:x.π.A){o:Oper}{f:FuncId}{e:Array Value→Sem Value}[XF x.P f e]{args:List Operand}{ts:Array TypeId}{vs:List Value}(ho:ops[i]? =some o)(hop:o.op= .call ⟨.value (.func f),args.toArray,ts⟩)(hv:evs ρ args=some vs)(hw:want ops ρ o)(hd:d_ o.dst x.n=true)(hcan:x.π.can a s)
  (hb:∀w y,x.π.at_ w y→x.π.rel a s y→x.π.blk a y→(e vs.toArray).run x.P w= .halt .blocked w)
  (ok:∀w y,x.π.at_ w y→x.π.rel a s y→¬x.π.blk a y→∃v,Yields x.P f (e vs.toArray) w v (x.π.wld a y w) (x.π.evs a y)∧∀s',x.π.WO a s y s'→LO x ops rest Q (put ρ o.dst v) ds s')
  (fr:x.π.free a→∃v evs,(∀ev∈evs,Event.mute ev=true)∧∀w,Yields x.P f (e vs.toArray) w v w evs):LO x ops (i::rest) Q ρ ds s:=by
 obtain⟨fn,h1,h2,h3,h4,h5⟩:=(inferInstance:XF x.P f e).out
 refine LO.act a ho hw hd (fun c=>by rw[hop];simp) hcan (fun ee he w y q1 q2 q3=>?_) (fun ee he w y q1 q2 q3=>?_) (fun hk ee he=>?_) (fun hf ee he=>?_)
 ·obtain⟨es,r⟩:=PO (f:=f) (e:=e) (hb w y q1 q2 q3)
  exact⟨es,w,by rw[rV he hop hv];exact r,rfl⟩
 ·obtain⟨v,⟨r1,r2,r3⟩,r4⟩:=ok w y q1 q2 q3
  obtain⟨es,r5,r6⟩:=T_ (f:=f) (e:=e) r1 r2 r3
  exact⟨v,es,by rw[rV he hop hv];exact r5,r6 _,r4⟩
 ·refine⟨.func f,f,args.toArray,ts,hop,he _ _ rfl,?_⟩
  simp only[Option.isNone_iff_eq_none]at h3
  simp[h1,h3]
 ·obtain⟨v,evs,hm,hy⟩:=fr hf
  have key:∀w,∃es,(callFunc f vs.toArray).runT x.P w #[]=(.ok (.value v) w,es)∧es= #[⟨.mark (.extern f),false,true⟩]++evs∧∀fn,seen x.P fn es=evs:=fun w=>by
   obtain⟨r1,r2,r3⟩:=hy w
   have h4':Extern.findNext fn=none:=by simpa using h4
   refine⟨_,?_,rfl,fun fn'=>seen_entry _ _ _ r3⟩
   rw[Sem.runT_eq,run_callFunc_extern h1 h2 h3 h4' h5,r1,events_callFunc_extern h1 h2 h3 h4' h5]
   simp only[List.push_toArray,List.nil_append]
   rw[r2]
   rfl
  refine⟨v, #[⟨.mark (.extern f),false,true⟩]++evs,?_,fun w=>?_⟩
  ·obtain⟨es,_,e2,e3⟩:=key default
   rw[←e2,e3];exact hm
  ·obtain⟨es,e1,e2,_⟩:=key w
   rw[rV he hop hv,e1,e2]
end
end Go.aS

/- What the entries of the sync packages yield, and list. Conditions: none; over any program. -/
namespace Go.aS
open Go.Conc
theorem Ua{m:Mark}(hm:∀g,m≠ .extern g):∀x∈(#[qo m]:Array Event),x.sync=true∧∀g,x.loc≠ .mark (.extern g):=by
 intro x hx
 simp[qo]at hx
 subst hx
 exact⟨rfl,fun g h=>hm g (Loc.mark.inj h)⟩

section
variable{P:Program}{f:FuncId}{w:World}{args:Array Value}{ad:Addr}
theorem pK{m:Mark}(hm:∀g,m≠ .extern g):Yields P f ((fun _=>do Go.mark m;pure Extern.Race.none_:Array Value→Sem Value) args) w (.tuple #[]) w #[qo m]:=
 ⟨by simp[Extern.Race.none_],by simp[qo],Ua hm⟩
theorem fB{mk:Addr→Mark}(hm:∀ad g,mk ad≠ .extern g)(hx:args[0]? =some (.pointer (some ad))):Yields P f (Extern.Race.marked mk args) w (.tuple #[]) w #[qo (mk ad)]:=
 ⟨by simp[Extern.Race.marked,Extern.Race.at_,hx,Extern.Race.none_],by simp[Extern.Race.marked,Extern.Race.at_,hx,qo],Ua (hm ad)⟩
theorem nK{k:IntKind}{v d:Int}(hc:w.cell? ad=some (.int k v))(hz:w.frozen? ad=false):
  Yields P f (Extern.Atomic.update (Op.intArith .add) k true #[.pointer (some ad),.int k d]) w (.int k (k.wrap (v+d))) (w.setCell ad (.int k (k.wrap (v+d)))) #[uD ad,yT ad]:=
 ⟨run_add_entry hc hz,by rw[events_add_entry hc hz];rfl,sync_rw ad⟩
theorem XC{k:IntKind}{v n:Int}(hc:w.cell? ad=some (.int k v))(hz:w.frozen? ad=false):
  Yields P f (Extern.Atomic.casT (.int k) #[.pointer (some ad),.int k v,.int k n]) w (.bool true) (w.setCell ad (.int k n)) #[uD ad,yT ad]:=
 ⟨by rw[casT_eq];exact run_cas_hit_entry hc hz,by rw[casT_eq,events_cas_hit_entry hc hz];rfl,sync_rw ad⟩
theorem Ub{k:IntKind}{v old n:Int}(hc:w.cell? ad=some (.int k v))(hz:w.frozen? ad=false)(hne:¬v=old):
  Yields P f (Extern.Atomic.casT (.int k) #[.pointer (some ad),.int k old,.int k n]) w (.bool false) w #[uD ad]:=
 ⟨by rw[casT_eq];exact run_cas_miss_entry hc hz hne,by rw[casT_eq,events_cas_miss_entry hc hz hne];rfl,sync_r ad⟩
theorem ZM{k:IntKind}{v:Int}(hc:w.cell? ad=some (.int k v)):Yields P f (Extern.Atomic.loadT (.int k) #[.pointer (some ad)]) w (.int k v) w #[uD ad]:=by
 refine⟨?_,?_,sync_r ad⟩
 ·change Sem.run P (do Extern.Atomic.read (.int k) (←asAddr (.pointer (some ad)))) w=_
  simp[Extern.Atomic.read,asAddr,hc]
 ·change Sem.events P (do Extern.Atomic.read (.int k) (←asAddr (.pointer (some ad)))) w _=_
  simp[Extern.Atomic.read,asAddr,hc,events_load,uD]
theorem XD{k:IntKind}{y:Int}{u:Value}(hc:w.cell? ad=some u)(hz:w.frozen? ad=false):Yields P f (Extern.Atomic.storeT #[.pointer (some ad),.int k y]) w (.tuple #[]) (w.setCell ad (.int k y)) #[yT ad]:=by
 refine⟨?_,?_,?_⟩
 ·change Sem.run P (do
   store (←asAddr (.pointer (some ad))) (.int k y) .atomic
   pure Extern.Atomic.none_) w=_
  simp[asAddr,hc,hz,run_store P w ad (.int k y) .atomic rfl,Extern.Atomic.none_,Result.andThen]
 ·change Sem.events P (do
   store (←asAddr (.pointer (some ad))) (.int k y) .atomic
   pure Extern.Atomic.none_) w _=_
  simp[asAddr,hc,hz,events_store P w _ ad (.int k y) .atomic rfl,yT]
 ·intro x hx
  simp[yT]at hx
  subst hx
  exact⟨rfl,fun g h=>by cases h⟩
theorem NM{n:Int}(hx:args[0]? =some (.pointer (some ad)))(hc:w.cell? ad=some (.int .u32 n))(hn0:n≠0)(hz:w.frozen? ad=false):Yields P f (Extern.Sync.semacquire args) w (.tuple #[]) (w.setCell ad (.int .u32 (n-1))) (qy ad):=
 ⟨by simp[Extern.Sync.semacquire,Extern.Sync.count,hx,hc,hn0,hz,Extern.Sync.none_,run_store P w ad (.int .u32 (n-1)) .atomic rfl,Result.andThen],
  by simp[Extern.Sync.semacquire,Extern.Sync.count,hx,hc,hn0,hz,qy,qo,uD,yT,events_load,events_store P w _ ad (.int .u32 (n-1)) .atomic rfl,run_store P w ad (.int .u32 (n-1)) .atomic rfl,Result.evThen],semEvents_sync ad⟩
theorem Jt(hx:args[0]? =some (.pointer (some ad)))(hc:w.cell? ad=some (.int .u32 0)):(Extern.Sync.semacquire args).run P w= .halt .blocked w:=by simp[Extern.Sync.semacquire,Extern.Sync.count,hx,hc]
theorem Ip{n:Int}(hx:args[0]? =some (.pointer (some ad)))(hc:w.cell? ad=some (.int .u32 n))(hz:w.frozen? ad=false):Yields P f (Extern.Sync.semrelease args) w (.tuple #[]) (w.setCell ad (.int .u32 (IntKind.u32.wrap (n+1)))) (qy ad):=
 ⟨by simp[Extern.Sync.semrelease,Extern.Sync.count,hx,hc,hz,Extern.Sync.none_,Op.intArith,run_store P w ad (.int .u32 (IntKind.u32.wrap (n+1))) .atomic rfl,Result.andThen],
  by simp[Extern.Sync.semrelease,Extern.Sync.count,hx,hc,hz,qy,qo,uD,yT,Op.intArith,events_load,events_store P w _ ad (.int .u32 (IntKind.u32.wrap (n+1))) .atomic rfl,run_store P w ad (.int .u32 (IntKind.u32.wrap (n+1))) .atomic rfl,Result.evThen],semEvents_sync ad⟩

theorem cells_at{b:Nat}{v0 v1:Value}{t:TypeId}(h:w.heap[b]? =some (.cells #[v0,v1] t (0,0))):w.cell? (cell0 b)=some v0∧w.frozen? (cell0 b)=false∧w.cell? (cell1 b)=some v1∧w.frozen? (cell1 b)=false:=by
 refine⟨?_,?_,?_,?_⟩ <;>simp[World.cell?,World.frozen?,cell0,cell1,h]
end
end Go.aS

/- The types and functions of the program, as facts. Conditions: none. -/
namespace Go.Proofs.YtkkdgffaohidnaaGreatDoor
open Go Go.aS
set_option maxRecDepth 100000
instance:TD Tryz.prog 3 (.int .i64):=⟨Tryz.underlying3⟩
instance:SC Tryz.prog 3:=⟨by kernel_rfl⟩
instance:TI Tryz.prog 3 1 8 (.int .i64 0) #[(.int .i64 0)]:=⟨by kernel_rfl,rfl⟩
instance:TD Tryz.prog 4 .bool:=⟨Tryz.underlying4⟩
instance:SC Tryz.prog 4:=⟨by kernel_rfl⟩
instance:TI Tryz.prog 4 1 1 (.bool false) #[(.bool false)]:=⟨by kernel_rfl,rfl⟩
instance:TD Tryz.prog 5 (.int .u8):=⟨Tryz.underlying5⟩
instance:TD Tryz.prog 20 (.interface #[]):=⟨Tryz.underlying20⟩
instance:TD Tryz.prog 21 (.int .i32):=⟨Tryz.underlying21⟩
instance:SC Tryz.prog 21:=⟨by kernel_rfl⟩
instance:TD Tryz.prog 22 (.slice 3):=⟨Tryz.underlying22⟩
instance:SC Tryz.prog 22:=⟨by kernel_rfl⟩
instance:TI Tryz.prog 22 1 24 (.slice none 0 0) #[(.slice none 0 0)]:=⟨by kernel_rfl,rfl⟩
instance:TD Tryz.prog 25 (.slice 45):=⟨Tryz.underlying25⟩
instance:SC Tryz.prog 25:=⟨by kernel_rfl⟩
instance:SC Tryz.prog 28:=⟨by kernel_rfl⟩
instance:TI Tryz.prog 28 1 8 (.int .i64 0) #[(.int .i64 0)]:=⟨by kernel_rfl,rfl⟩
instance:AG Tryz.prog 45 3:=⟨by kernel_rfl,by kernel_rfl⟩
instance:TI Tryz.prog 45 3 24 (.agg #[(.int .i64 0),(.int .i64 0),(.int .i64 0)]) #[(.int .i64 0),(.int .i64 0),(.int .i64 0)]:=⟨by kernel_rfl,rfl⟩
instance:FA Tryz.prog 45 0 0 3:=⟨0,by kernel_rfl⟩
instance:FA Tryz.prog 45 1 1 3:=⟨0,by kernel_rfl⟩
instance:FA Tryz.prog 45 2 2 3:=⟨0,by kernel_rfl⟩
instance:BP Tryz.prog 45 [(0,1),(1,1),(2,1)]:=⟨by kernel_rfl⟩
instance:TD Tryz.prog 64 (.slice 76):=⟨Tryz.underlying64⟩
instance:SC Tryz.prog 64:=⟨by kernel_rfl⟩
instance:AG Tryz.prog 76 2:=⟨by kernel_rfl,by kernel_rfl⟩
instance:TI Tryz.prog 76 2 16 (.agg #[(.int .i64 0),(.int .i64 0)]) #[(.int .i64 0),(.int .i64 0)]:=⟨by kernel_rfl,rfl⟩
instance:FA Tryz.prog 76 0 0 3:=⟨0,by kernel_rfl⟩
instance:FA Tryz.prog 76 1 1 3:=⟨0,by kernel_rfl⟩
instance:BP Tryz.prog 76 [(0,1),(1,1)]:=⟨by kernel_rfl⟩
instance:TD Tryz.prog 82 (.int .u64):=⟨Tryz.underlying82⟩
instance:AG Tryz.prog 87 1:=⟨by kernel_rfl,by kernel_rfl⟩
instance:TI Tryz.prog 87 1 24 (.agg #[(.slice none 0 0)]) #[(.slice none 0 0)]:=⟨by kernel_rfl,rfl⟩
instance:FA Tryz.prog 87 0 0 25:=⟨0,by kernel_rfl⟩
instance:BP Tryz.prog 87 [(0,1)]:=⟨by kernel_rfl⟩
instance:SC Tryz.prog 88:=⟨by kernel_rfl⟩
instance:TI Tryz.prog 88 1 1 (.int .u8 0) #[(.int .u8 0)]:=⟨by kernel_rfl,rfl⟩
instance:AG Tryz.prog 90 2:=⟨by kernel_rfl,by kernel_rfl⟩
instance:TI Tryz.prog 90 2 32 (.agg #[(.slice none 0 0),(.int .u8 0)]) #[(.slice none 0 0),(.int .u8 0)]:=⟨by kernel_rfl,rfl⟩
instance:FA Tryz.prog 90 0 0 87:=⟨0,by kernel_rfl⟩
instance:FA Tryz.prog 90 1 1 88:=⟨0,by kernel_rfl⟩
instance:BP Tryz.prog 90 [(0,1),(1,1)]:=⟨by kernel_rfl⟩
instance:AG Tryz.prog 97 2:=⟨by kernel_rfl,by kernel_rfl⟩
instance:TI Tryz.prog 97 2 32 (.agg #[(.slice none 0 0),(.int .i64 0)]) #[(.slice none 0 0),(.int .i64 0)]:=⟨by kernel_rfl,rfl⟩
instance:FA Tryz.prog 97 0 0 22:=⟨0,by kernel_rfl⟩
instance:FA Tryz.prog 97 1 1 3:=⟨0,by kernel_rfl⟩
instance:BP Tryz.prog 97 [(0,1),(1,1)]:=⟨by kernel_rfl⟩
instance:AG Tryz.prog 99 2:=⟨by kernel_rfl,by kernel_rfl⟩
instance:TI Tryz.prog 99 2 16 (.agg #[(.int .i64 0),(.int .i64 0)]) #[(.int .i64 0),(.int .i64 0)]:=⟨by kernel_rfl,rfl⟩
instance:FA Tryz.prog 99 0 0 3:=⟨0,by kernel_rfl⟩
instance:FA Tryz.prog 99 1 1 3:=⟨0,by kernel_rfl⟩
instance:BP Tryz.prog 99 [(0,1),(1,1)]:=⟨by kernel_rfl⟩
instance:TD Tryz.prog 106 (.interface #[("Error",242)]):=⟨Tryz.underlying106⟩
instance:AG Tryz.prog 110 2:=⟨by kernel_rfl,by kernel_rfl⟩
instance:TI Tryz.prog 110 2 16 (.agg #[(.int .i64 0),(.int .i64 0)]) #[(.int .i64 0),(.int .i64 0)]:=⟨by kernel_rfl,rfl⟩
instance:FA Tryz.prog 110 0 0 28:=⟨0,by kernel_rfl⟩
instance:BP Tryz.prog 110 [(0,1),(1,1)]:=⟨by kernel_rfl⟩
instance:SC Tryz.prog 112:=⟨by kernel_rfl⟩
instance:TD Tryz.prog 115 (.array 13 4):=⟨Tryz.underlying115⟩
instance:AG Tryz.prog 115 13:=⟨by kernel_rfl,by kernel_rfl⟩
instance:TI Tryz.prog 115 13 13 (.agg #[(.bool false),(.bool false),(.bool false),(.bool false),(.bool false),(.bool false),(.bool false),(.bool false),(.bool false),(.bool false),(.bool false),(.bool false),(.bool false)]) #[(.bool false),(.bool false),(.bool false),(.bool false),(.bool false),(.bool false),(.bool false),(.bool false),(.bool false),(.bool false),(.bool false),(.bool false),(.bool false)]:=⟨by kernel_rfl,rfl⟩
instance:TD Tryz.prog 128 (.int .u32):=⟨Tryz.underlying128⟩
instance:FA Tryz.prog 130 0 0 21:=⟨0,by kernel_rfl⟩
instance:FA Tryz.prog 130 1 1 128:=⟨0,by kernel_rfl⟩
instance:TI Tryz.prog 132 2 8 (.agg #[(.int .i32 0),(.int .u32 0)]) #[(.int .i32 0),(.int .u32 0)]:=⟨by kernel_rfl,rfl⟩
instance:FA Tryz.prog 132 1 0 130:=⟨1,by kernel_rfl⟩
instance:FA Tryz.prog 136 2 0 82:=⟨0,by kernel_rfl⟩
instance:TI Tryz.prog 138 2 16 (.agg #[(.int .u64 0),(.int .u32 0)]) #[(.int .u64 0),(.int .u32 0)]:=⟨by kernel_rfl,rfl⟩
instance:FA Tryz.prog 138 1 0 136:=⟨0,by kernel_rfl⟩
instance:FA Tryz.prog 138 2 1 128:=⟨0,by kernel_rfl⟩
instance:SC Tryz.prog 141:=⟨by kernel_rfl⟩
instance:TI Tryz.prog 141 1 8 (.pointer none) #[(.pointer none)]:=⟨by kernel_rfl,rfl⟩
instance:TD Tryz.prog 144 (.slice 149):=⟨Tryz.underlying144⟩
instance:SC Tryz.prog 144:=⟨by kernel_rfl⟩
instance:TI Tryz.prog 144 1 24 (.slice none 0 0) #[(.slice none 0 0)]:=⟨by kernel_rfl,rfl⟩
instance:AG Tryz.prog 146 2:=⟨by kernel_rfl,by kernel_rfl⟩
instance:TI Tryz.prog 146 2 32 (.agg #[(.int .i64 0),(.slice none 0 0)]) #[(.int .i64 0),(.slice none 0 0)]:=⟨by kernel_rfl,rfl⟩
instance:FA Tryz.prog 146 0 0 3:=⟨0,by kernel_rfl⟩
instance:FA Tryz.prog 146 1 1 144:=⟨0,by kernel_rfl⟩
instance:TD Tryz.prog 149 (.array 4 3):=⟨Tryz.underlying149⟩
instance:AG Tryz.prog 149 4:=⟨by kernel_rfl,by kernel_rfl⟩
instance:TI Tryz.prog 149 4 32 (.agg #[(.int .i64 0),(.int .i64 0),(.int .i64 0),(.int .i64 0)]) #[(.int .i64 0),(.int .i64 0),(.int .i64 0),(.int .i64 0)]:=⟨by kernel_rfl,rfl⟩
instance:TD Tryz.prog 153 (.map 3 4):=⟨Tryz.underlying153⟩
instance:TI Tryz.prog 159 4 80 (.agg #[(.slice none 0 0),(.int .u8 0),(.slice none 0 0),(.slice none 0 0)]) #[(.slice none 0 0),(.int .u8 0),(.slice none 0 0),(.slice none 0 0)]:=⟨by kernel_rfl,rfl⟩
instance:FA Tryz.prog 159 0 0 90:=⟨1,by kernel_rfl⟩
instance:FA Tryz.prog 159 1 2 64:=⟨0,by kernel_rfl⟩
instance:FA Tryz.prog 159 2 3 22:=⟨0,by kernel_rfl⟩
instance:BP Tryz.prog 159 [(0,2),(2,1),(3,1)]:=⟨by kernel_rfl⟩
instance:TD Tryz.prog 167 (.int .u64):=⟨Tryz.underlying167⟩
instance:TD Tryz.prog 169 (.slice 97):=⟨Tryz.underlying169⟩
instance:AG Tryz.prog 175 3:=⟨by kernel_rfl,by kernel_rfl⟩
instance:TI Tryz.prog 175 3 24 (.agg #[(.pointer none),(.pointer none),(.int .u64 0)]) #[(.pointer none),(.pointer none),(.int .u64 0)]:=⟨by kernel_rfl,rfl⟩
instance:SC Tryz.prog 178:=⟨by kernel_rfl⟩
instance:TD Tryz.prog 186 (.pointer 138):=⟨Tryz.underlying186⟩
instance:TD Tryz.prog 192 (.pointer 128):=⟨Tryz.underlying192⟩
instance:TD Tryz.prog 207 (.map 3 99):=⟨Tryz.underlying207⟩
instance:SC Tryz.prog 207:=⟨by kernel_rfl⟩
instance:TI Tryz.prog 207 1 8 (.map none) #[(.map none)]:=⟨by kernel_rfl,rfl⟩
instance:TD Tryz.prog 228 (.pointer 130):=⟨Tryz.underlying228⟩
instance:FB Tryz.prog 25:=⟨by kernel_rfl⟩
instance:FB Tryz.prog 28:=⟨by kernel_rfl⟩
instance:FB Tryz.prog 29:=⟨by kernel_rfl⟩
instance:FB Tryz.prog 34:=⟨by kernel_rfl⟩
instance:FB Tryz.prog 39:=⟨by kernel_rfl⟩
instance:FB Tryz.prog 41:=⟨by kernel_rfl⟩
instance:FB Tryz.prog 43:=⟨by kernel_rfl⟩
instance:FB Tryz.prog 48:=⟨by kernel_rfl⟩
instance:FB Tryz.prog 51:=⟨by kernel_rfl⟩
instance:FB Tryz.prog 57:=⟨by kernel_rfl⟩
instance:FB Tryz.prog 58:=⟨by kernel_rfl⟩
instance:FB Tryz.prog 62:=⟨by kernel_rfl⟩
instance:FB Tryz.prog 65:=⟨by kernel_rfl⟩
instance:FB Tryz.prog 67:=⟨by kernel_rfl⟩
instance:FB Tryz.prog 71:=⟨by kernel_rfl⟩
instance:FB Tryz.prog 77:=⟨by kernel_rfl⟩
instance:FB Tryz.prog 83:=⟨by kernel_rfl⟩
instance:FB Tryz.prog 84:=⟨by kernel_rfl⟩
instance:FB Tryz.prog 85:=⟨by kernel_rfl⟩
instance:FB Tryz.prog 87:=⟨by kernel_rfl⟩
instance:FB Tryz.prog 88:=⟨by kernel_rfl⟩
instance:FB Tryz.prog 89:=⟨by kernel_rfl⟩
instance:FB Tryz.prog 91:=⟨by kernel_rfl⟩
instance:FB Tryz.prog 94:=⟨by kernel_rfl⟩
instance:FB Tryz.prog 95:=⟨by kernel_rfl⟩
instance:FB Tryz.prog 97:=⟨by kernel_rfl⟩
instance:FB Tryz.prog 98:=⟨by kernel_rfl⟩
instance:FB Tryz.prog 99:=⟨by kernel_rfl⟩
instance:FB Tryz.prog 103:=⟨by kernel_rfl⟩
instance:FB Tryz.prog 104:=⟨by kernel_rfl⟩
instance:FB Tryz.prog 105:=⟨by kernel_rfl⟩
instance:FB Tryz.prog 106:=⟨by kernel_rfl⟩
instance:FB Tryz.prog 107:=⟨by kernel_rfl⟩
instance:FB Tryz.prog 108:=⟨by kernel_rfl⟩
instance:FB Tryz.prog 109:=⟨by kernel_rfl⟩
instance:FB Tryz.prog 110:=⟨by kernel_rfl⟩
instance:FB Tryz.prog 111:=⟨by kernel_rfl⟩
instance:FB Tryz.prog 112:=⟨by kernel_rfl⟩
instance:FB Tryz.prog 113:=⟨by kernel_rfl⟩
instance:FB Tryz.prog 114:=⟨by kernel_rfl⟩
instance:FB Tryz.prog 115:=⟨by kernel_rfl⟩
instance:FB Tryz.prog 117:=⟨by kernel_rfl⟩
instance:FB Tryz.prog 121:=⟨by kernel_rfl⟩
instance:FB Tryz.prog 122:=⟨by kernel_rfl⟩
instance:FB Tryz.prog 123:=⟨by kernel_rfl⟩
instance:FB Tryz.prog 124:=⟨by kernel_rfl⟩
instance:FB Tryz.prog 128:=⟨by kernel_rfl⟩
instance:FB Tryz.prog 129:=⟨by kernel_rfl⟩
instance:FB Tryz.prog 130:=⟨by kernel_rfl⟩
instance:FB Tryz.prog 131:=⟨by kernel_rfl⟩
instance:FB Tryz.prog 132:=⟨by kernel_rfl⟩
instance:FB Tryz.prog 136:=⟨by kernel_rfl⟩
instance:FB Tryz.prog 138:=⟨by kernel_rfl⟩
instance:FB Tryz.prog 146:=⟨by kernel_rfl⟩
instance:FB Tryz.prog 148:=⟨by kernel_rfl⟩
instance:FB Tryz.prog 149:=⟨by kernel_rfl⟩
instance:FB Tryz.prog 152:=⟨by kernel_rfl⟩
instance:FB Tryz.prog 153:=⟨by kernel_rfl⟩
instance:FB Tryz.prog 154:=⟨by kernel_rfl⟩
instance:FB Tryz.prog 157:=⟨by kernel_rfl⟩
instance:FB Tryz.prog 160:=⟨by kernel_rfl⟩
instance:FB Tryz.prog 161:=⟨by kernel_rfl⟩
instance:FB Tryz.prog 162:=⟨by kernel_rfl⟩
instance:FB Tryz.prog 163:=⟨by kernel_rfl⟩
instance:FB Tryz.prog 164:=⟨by kernel_rfl⟩
instance:FB Tryz.prog 165:=⟨by kernel_rfl⟩
instance:FB Tryz.prog 166:=⟨by kernel_rfl⟩
instance:FB Tryz.prog 169:=⟨by kernel_rfl⟩
instance:FB Tryz.prog 178:=⟨by kernel_rfl⟩
instance:FB Tryz.prog 180:=⟨by kernel_rfl⟩
instance:FB Tryz.prog 181:=⟨by kernel_rfl⟩
instance:FB Tryz.prog 183:=⟨by kernel_rfl⟩
instance:FB Tryz.prog 185:=⟨by kernel_rfl⟩
instance:FB Tryz.prog 186:=⟨by kernel_rfl⟩
instance:FB Tryz.prog 194:=⟨by kernel_rfl⟩
end Go.Proofs.YtkkdgffaohidnaaGreatDoor

/- The types of functions, as facts. Conditions: none. -/
namespace Go.Proofs.YtkkdgffaohidnaaGreatDoor
open Go Go.aS
set_option maxRecDepth 100000
instance:TD Tryz.prog 45 (.struct #[⟨"Lo",3,0,false, "", "",0⟩,⟨"Hi",3,1,false, "", "",8⟩,⟨"Shift",3,2,false, "", "",16⟩]):=⟨by kernel_rfl⟩
instance:SC Tryz.prog 62:=⟨by kernel_rfl⟩
instance:TI Tryz.prog 62 1 8 .nilFunc #[.nilFunc]:=⟨by kernel_rfl,rfl⟩
instance:TD Tryz.prog 76 (.struct #[⟨"Quality",3,0,false, "", "",0⟩,⟨"Pounds",3,1,false, "", "",8⟩]):=⟨by kernel_rfl⟩
instance:SC Tryz.prog 124:=⟨by kernel_rfl⟩
instance:TI Tryz.prog 124 1 8 .nilFunc #[.nilFunc]:=⟨by kernel_rfl,rfl⟩
instance:SC Tryz.prog 170:=⟨by kernel_rfl⟩
instance:TI Tryz.prog 170 1 8 .nilFunc #[.nilFunc]:=⟨by kernel_rfl,rfl⟩
instance:SC Tryz.prog 204:=⟨by kernel_rfl⟩
end Go.Proofs.YtkkdgffaohidnaaGreatDoor
