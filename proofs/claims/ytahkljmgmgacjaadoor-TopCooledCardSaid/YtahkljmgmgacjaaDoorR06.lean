/- The machine: the group is closed. Conditions: none; over any program. (And 10 texts more.) -/
import Derived.Test.YtahkljmgmgacjaaDoorR05
set_option linter.unusedVariables false
set_option linter.unusedSimpArgs false
set_option linter.unusedSectionVars false

/- The machine: the group is closed. Conditions: none; over any program. -/
namespace Go.aS
open Go.Conc (crowd parked rcase scase QuitsIn QuitsD Before Knows knows_own touchAt touchAt_of touchAt_old getElem?_append_old getElem?_append_cases lt_size_of_getElem? touch_of hb_po hb_app ofEvents_eq woken Deaf deaf_old g?_old act?_old heard_old lt_of_act? Deaf_own Deaf_other counts_old deaf_inside)
open Go.ConcM (OsLater)
open Go.ConcN (RelBy)
section
variable{P:Program}{γ:GP}{gs:Array Goroutine}{w w':World}{t u:Trace}{k:Hp}{M:Nat→Prop}{k₀ vI:Hp}{aO vJ:Nat→Prop}{d₀ BU:Nat}{qs:List (Nat×Nat)}{left:Nat}{p p':MP}{x x':XS}{ws:List (Σ j,WM P γ j)}{tl tl':TL}{esc pJ:List ah}
theorem dZ.gone[Base](I:dZ P γ gs w t k₀ aO d₀ qs left .seen x ws tl esc){i:Nat}{m:Σ j,WM P γ j}(hi:ws[i]? =some m):m.2.wa.wr= .gone:=by
  have h:=I.N.Ik.acU
  have hmap:(ws.map fun m=>m.2.wa)[i]? =some m.2.wa:=by simp[hi]
  have hp:=Rl hmap
  cases e:m.2.wa.wr <;>rw[e]at hp <;>first | rfl | (exfalso;omega)
theorem ZG{j:Nat}{m:WM P γ j}(h:m.wa.wr= .gone):(∃(pre:Option (Hp×(Nat→Prop)×ah)) (s:LS) (g:Goroutine) (T:dB P false (aJ γ.toGrp) (Gone P) s g),m= .fin pre T)∨∃(n:Nat) (g:Goroutine) (hq:QuitsIn P n g),m= .I4 n hq:=by
  cases m with
  | run T=>cases h
  | vF E k M hm hk hM hE hh tk T=>
    rename_i s g
    cases s <;>cases h
  | xY E k M hm hk hM tg ht hE hh tk T=>
    rename_i s g
    cases s <;>cases h
  | fin pre T=>exact .inl ⟨pre,_,_,T,rfl⟩
  | I4 n hq=>exact .inr ⟨n,_,hq,rfl⟩
theorem dZ.zF[Base](I:dZ P γ gs w t k₀ aO d₀ qs left .seen x ws tl esc){i:Nat}{m:Σ j,WM P γ j}(hi:ws[i]? =some m):
    m.2.act=none∧m.2.been∧¬m.2.has∧(∃n,QuitsD P n m.2.deaf m.2.g)∧gs[qs.length+1+i]? =some m.2.g:=by
  have hg:=I.gone hi
  obtain⟨hj,hok,g,h1,h2⟩:=I.wG i m hi
  have hmap:(ws.map fun m=>m.2.wa)[i]? =some m.2.wa:=by simp[hi]
  have hfin:=I.N.live i _ hmap (by rw[hg];simp)
  have hgs:gs[qs.length+1+i]? =some m.2.g:=by
    rcases h2 with rfl | h2
    · exact h1
    · rw[h2.1]at hfin;cases hfin
  have hdf:DF .gone x:=by have:=I.N.aaW hmap;rwa[hg]at this
  obtain⟨j,m⟩:=m
  have hg:m.wa.wr= .gone:=hg
  rcases ZG hg with⟨pre,s,g,T,rfl⟩ | ⟨n,g,hq,rfl⟩
  · obtain⟨_,r,d,rfl,hpre,_⟩:=hok
    have hr:r= .gone:=hg
    subst hr
    obtain rfl:=hpre (by simp)
    exact⟨rfl,trivial,fun h=>h,Rz T I.at_ hdf rfl,hgs⟩
  · exact⟨rfl,trivial,fun h=>h,⟨n,.of_quitsIn hq⟩,hgs⟩

theorem LM{t:Trace}{g a b:Nat}(h1:t.g? a=some g)(h2:t.g? b=some g)(h:a≤b):Before t a b:=by
  rcases Nat.lt_or_ge a b with hl | hl
  · obtain⟨y,hy,ey⟩:=Option.map_eq_some_iff.1 h1
    obtain⟨z,hz,ez⟩:=Option.map_eq_some_iff.1 h2
    exact .inr (hb_po hl hy hz (ey.trans ez.symm))
  · exact .inl (by omega)

theorem ZH{qw:List (Nat×Nat)}(h1:qw.length=ws.length)(h2:∀(i:Nat) (m:Σ j,WM P γ j),ws[i]? =some m→∃q,qw[i]? =some q∧q.2=m.2.deaf):TS (qs++qw)=uY 0 qs ws:=by
  funext g
  unfold TS uY
  by_cases h0:g=0
  · rw[if_pos h0,if_pos h0]
  · rw[if_neg h0,if_neg h0]
    by_cases h3:g≤qs.length
    · rw[if_pos h3,List.getElem?_append_left (by omega)]
    · rw[if_neg h3,List.getElem?_append_right (by omega)]
      cases e:ws[g-1-qs.length]? with
      | none=>
        have:ws.length≤g-1-qs.length:=by
          rcases Nat.lt_or_ge (g-1-qs.length) ws.length with h | h
          · rw[List.getElem?_eq_getElem h]at e;cases e
          · exact h
        rw[List.getElem?_eq_none (by omega)];rfl
      | some m=>
        obtain⟨q,h4,h5⟩:=h2 _ m e
        rw[h4]
        simp[h5]

theorem Pq{α β:Type}{f g:α→Option β}:∀{l:List α},(∀a∈l,f a=g a)→l.filterMap f=l.filterMap g
  | [],_=>rfl
  | a::l,h=>by
    rw[List.filterMap_cons,List.filterMap_cons,h a (List.mem_cons_self ..),Pq fun b hb=>h b (List.mem_cons_of_mem _ hb)]
theorem U9(hb:∀m∈ws,m.2.been)(h1:∀(i:Nat) (m:Σ j,WM P γ j),ws[i]? =some m→m.1=i):fU ws=(List.range ws.length).filterMap γ.tag:=by
  have e1:ws.map (·.1)=List.range ws.length:=by
    apply List.ext_getElem?
    intro i
    rw[List.getElem?_map]
    cases e:ws[i]? with
    | none=>
      have:ws.length≤i:=by
        rcases Nat.lt_or_ge i ws.length with h | h
        · rw[List.getElem?_eq_getElem h]at e;cases e
        · exact h
      rw[List.getElem?_eq_none (by simpa using this)];rfl
    | some m=>
      have hl:=lt_of_some e
      rw[List.getElem?_range hl];simp[h1 i m e]
  rw[←e1,List.filterMap_map]
  unfold fU
  apply Pq
  intro m hm
  simp[hb m hm]

theorem dZ.close[Base](I:dZ P γ gs w t k₀ aO 0 qs left .seen x ws tl esc){tt jj ll:Nat}(hk:k₀ γ.Wg=some (sK tt jj ll)){z:MemOp}(hz:z.act= .mark (.acquire (cell0 γ.Wg)))(hzg:z.g=0){ga ga':Goroutine}:
    ∃(l:List Nat) (c:Obj) (As:List ah) (qs':List (Nat×Nat)),As.length=ws.length∧(∀(i:Nat) (A:ah),As[i]? =some A→γ.R i A)∧(γ.mu≠none→γ.J l c∧l.Perm ((List.range ws.length).filterMap γ.tag))∧
      ((back γ c As).map (·.1)).Nodup∧(∀b o,(b,o)∈back γ c As→k₀ b=none∧¬aO b∧o.isChan=false)∧
      sO P (fun b=>b=γ.Wg) ((gs.map (woken P ga ga' w)).setIfInBounds 0 ga') w (t++ #[z]) (hset (hadd k₀ (back γ c As)) γ.Wg Bj) (fun b=>aO b∨∃o,(b,o)∈back γ c As) qs':=by
  have hpr:AU k₀ aO qs.length ws 0=some (k₀,aO):=jU
  have K:=I.Y.DZ 0 k₀ aO hpr
  have hsz:=I.size
  have hlt:0<gs.size:=by omega
  have hd0:Deaf t z.g=0:=by rw[hzg,I.Y.tk.deaf];exact Je
  have know:∀{i' r:Nat},RelBy (cell0 γ.Wg) t (qs.length+1+i') r→∀{n},Before t n r→Knows (t++ #[z]) 0 n:=fun hr n hb=>by
    have:=DY I.Y.tk.norel hr.act hr.heard hz hd0 hb
    rwa[hzg]at this
  have done:∀{i:Nat} {A:ah},esc[i]? =some A→∃m,ws[i]? =some m∧m.2.wa.wr≠ .live:=fun{i A} h=>by
    have hl:i<ws.length:=by rw[←I.lU.len];exact lt_of_some h
    have e:=List.getElem?_eq_getElem hl
    exact⟨_,e,by rw[I.gone e];simp⟩
  have aaZ:∀{i:Nat},i<ws.length→∃A,esc[i]? =some A:=fun{i} h=>⟨_,List.getElem?_eq_getElem (by rw[I.lU.len];exact h)⟩
  have Rx:∀(i:Nat) (m:Σ j,WM P γ j),ws[i]? =some m→¬m.2.runs:=fun i m hi hr=>(I.zF hi).2.2.1 (pG hr)
  obtain⟨l,c,hlc⟩:∃(l:List Nat) (c:Obj),γ.mu≠none→w.heap[γ.C]? =some c∧γ.J l c∧l.Perm (fU ws)∧O9 t qs.length ws.length γ.Mu γ.C:=by
    by_cases hmu:γ.mu=none
    · exact⟨[],Bj,fun h=>absurd hmu h⟩
    · have T0:=I.wP hmu
      cases tl with
      | free l c=>
        obtain⟨_,h2,h3,h4,h5⟩:=T0.free l c rfl
        exact⟨l,c,fun _=>⟨h2,h3,h4,h5⟩⟩
      | «at» i=>
        obtain⟨⟨m,h1,h2,_⟩,_⟩:=T0.held i rfl
        exact absurd h2 (I.zF h1).2.2.1
  have hback:∀b o,(b,o)∈back γ c esc→(γ.mu≠none∧b=γ.C∧o=c)∨(b,o)∈esc.flatten:=fun b o h=>by
    rcases List.mem_append.1 h with h | h
    · by_cases hmu:γ.mu=none
      · rw[if_pos hmu]at h;cases h
      · rw[if_neg hmu]at h
        have:=List.mem_singleton.1 h
        cases this
        exact .inl ⟨hmu,rfl,rfl⟩
    · exact .inr h
  have wS:∀b o,(b,o)∈back γ c esc→mX γ ws esc b:=fun b o h=>by
    rcases hback b o h with⟨h1,rfl,_⟩ | h
    · exact Rt h1 Rx
    · exact .inr ⟨o,h⟩
  have hinfo:∀b o,(b,o)∈back γ c esc→w.heap[b]? =some o∧o.isChan=false∧b≠γ.Wg∧Own (t++ #[z]) 0 b:=fun b o h=>by
    have app:∀b,(∀n a,touchAt t n=some a→In a.loc b→Knows (t++ #[z]) 0 n)→Own (t++ #[z]) 0 b:=fun b hb n a ha hl=>by
      rcases fP ha with⟨_,h2⟩ | ⟨op,_,hm,h2⟩
      · exact hb n a h2 hl
      · obtain rfl:op=z:=by simpa using hm
        rw[hz]at h2;cases h2
    rcases hback b o h with⟨hmu,rfl,rfl⟩ | h
    · obtain⟨h1,h2,_,h4⟩:=hlc hmu
      refine⟨h1,I.jc _ _ h2,(I.pF hmu).1,app _ fun n a ha hl=>?_⟩
      rcases h4 n a ha hl with h5 | ⟨p',g,hg1,hg2,h5,h6,h7,h8⟩
      · exact(h5 0 (.inl rfl)).app _
      · obtain⟨A,hA⟩:=aaZ (i:=g-qs.length-1) (by omega)
        obtain⟨m,hm,hl'⟩:=done hA
        obtain⟨_,_,r,hr1,hr2,_⟩:=I.lU.done _ m A hm hA hl'
        have hgg:qs.length+1+(g-qs.length-1)=g:=by omega
        have hle:=hr2 p' (by rw[hgg];exact h5) h6
        exact know hr1 (h8.trans (LM h5 (by rw[←hgg];exact hr1.g) hle))
    · obtain⟨A,hA,hb⟩:=List.mem_flatten.1 h
      obtain⟨i,hi⟩:=List.getElem?_of_mem hA
      obtain⟨m,hm,hl'⟩:=done hi
      obtain⟨_,h2,r,hr1,_,hr3⟩:=I.lU.done _ m A hm hi hl'
      obtain⟨h3,h4,h5,_⟩:=h2 b o hb
      exact⟨h3,h4,h5,app b fun n a ha hl=>know hr1 (hr3 b o hb n a ha hl)⟩
  have hnone:∀b o,(b,o)∈back γ c esc→k₀ b=none:=fun b o h=>I.Y.uH b 0 k₀ aO (wS b o h) hpr
  have abw:((back γ c esc).map (·.1)).Nodup:=by
    unfold back
    by_cases hmu:γ.mu=none
    · rw[if_pos hmu];exact I.lU.nodup
    · rw[if_neg hmu]
      simp only[List.cons_append,List.nil_append,List.map_cons,List.nodup_cons]
      refine⟨fun h=>?_,I.lU.nodup⟩
      obtain⟨⟨b,o⟩,h1,h2⟩:=List.mem_map.1 h
      exact(I.zC h1).2.2 hmu h2
  have hget:∀b o,(hadd k₀ (back γ c esc)) b=some o→(b,o)∈back γ c esc∨k₀ b=some o:=fun b o h=>by
    simp only[hadd]at h
    cases e:(back γ c esc).lookup b with
    | none=>rw[e]at h;exact .inr h
    | some o'=>rw[e]at h;cases h;exact .inl (jV e)
  have hkeep:∀b o,k₀ b=some o→b≠γ.Wg→hset (hadd k₀ (back γ c esc)) γ.Wg Bj b=some o:=fun b o h hb=>by
    rw[bY _ _ hb]
    simp only[hadd]
    cases e:(back γ c esc).lookup b with
    | none=>exact h
    | some o'=>have:=hnone b o' (jV e);rw[h]at this;cases this
  let qw:List (Nat×Nat):=ws.map fun m=>(Classical.epsilon fun n=>QuitsD P n m.2.deaf m.2.g,m.2.deaf)
  have hqw:∀(i:Nat) (m:Σ j,WM P γ j),ws[i]? =some m→∃q,qw[i]? =some q∧q.2=m.2.deaf∧QuitsD P q.1 q.2 m.2.g:=fun i m hi=>
    ⟨(Classical.epsilon fun n=>QuitsD P n m.2.deaf m.2.g,m.2.deaf),by simp[qw,hi],rfl,Classical.epsilon_spec (I.zF hi).2.2.2.1⟩
  have RF:qw.length=ws.length:=by simp[qw]
  have hu:∀op∈ #[z],op.g=0:=fun op h=>by
                                                    obtain rfl:op=z:=by simpa using h
                                                    exact hzg
  have Y1:LY w (t++ #[z]) (qs.length+ws.length+1) (uY 0 qs ws) (AU k₀ aO qs.length ws) (OE γ) (mX γ ws esc):=
    I.Y.UW (WX:=fun _=>False) (by omega) (Nat.le_refl _) rfl (fun _ _=>rfl) ⟨hu,fun op h a ha=>(by rw[qK h,hz]at ha;cases ha),fun op h a e=>(by rw[qK h,hz]at e;cases e)⟩ (fun op h a ha=>by rw[qK h,hz]at ha;cases ha) (fun b x k M o hb=>hb.elim) fun x=>by
      rw[Go.ConcN.Deaf_still t x _ fun op h=>(by rw[qK h,hz];exact⟨by simp,by simp⟩)]
      exact I.Y.tk.deaf x
  refine⟨l,c,esc,qs++qw,I.lU.len,fun i A hA=>?_,fun hmu=>?_,abw,fun b o hb=>⟨hnone b o hb,fun hm=>?_,(hinfo b o hb).2.1⟩,?_,?_,fun i q hi=>?_,I.base,fun b hb=>?_⟩
  · obtain⟨m,hm,hl'⟩:=done hA
    exact(I.lU.done _ m A hm hA hl').1
  · obtain⟨_,h2,h3,_⟩:=hlc hmu
    refine⟨h2,?_⟩
    rw[←U9 (fun m hm=>?_) fun i m hi=>(I.wG i m hi).1]
    · exact h3
    · obtain⟨i,hi⟩:=List.getElem?_of_mem hm
      exact(I.zF hi).2.1
  · have:=K.dom b hm
    rw[hnone b o hb]at this;cases this
  · simp[RF];omega
  · have hdv:TS (qs++qw)=uY 0 qs ws:=ZH RF fun i m hi=>let⟨q,h1,h2,_⟩:=hqw i m hi;⟨q,h1,h2⟩
    have hn:(qs++qw).length+1=qs.length+ws.length+1:=by rw[List.length_append,RF]
    rw[hdv,hn]
    refine⟨Y1.tk,fun g k1 M1 e=>?_,fun g g' k1 M1 k2 M2 hne e1 e2=>?_,fun b g k1 M1 o hb e ho=>?_,fun b g k1 M1 o e ho hf=>?_,fun b g k1 M1 hb=>hb.elim,fun b hb=>?_⟩
    · obtain⟨rfl,rfl,rfl⟩:=fV e
      have K1:=Y1.DZ 0 k₀ aO hpr
      refine⟨fun b o ho=>?_,fun b hb=>?_,fun b hb hc=>?_,fun b hb hc=>?_⟩
      · rcases bV ho with⟨rfl,rfl⟩ | ⟨h1,h2⟩
        · obtain⟨o',h3,_⟩:=K.uG _ _ hk
          exact⟨o',h3,.inr ⟨rfl,.inr rfl⟩⟩
        · rcases hget b o h2 with h2 | h2
          · exact⟨o,(hinfo b o h2).1,.inl rfl⟩
          · exact K.uG b o h2
      · by_cases hbW:b=γ.Wg
        · subst hbW;rw[bH];rfl
        · rcases hb with hb | ⟨o,hb⟩
          · obtain⟨o,ho⟩:=Option.isSome_iff_exists.1 (K.dom b hb)
            rw[hkeep b o ho hbW];rfl
          · rw[bY _ _ hbW]
            simp only[hadd]
            obtain⟨o',ho'⟩:=Option.isSome_iff_exists.1 (zD hb)
            rw[ho'];rfl
      · rcases hb with hb | ⟨o,hb⟩
        · obtain⟨o,ho⟩:=Option.isSome_iff_exists.1 (K.dom b hb)
          by_cases hbW:b=γ.Wg
          · subst hbW;rw[bH]at hc;cases hc
          · rw[hkeep b o ho hbW]at hc
            exact K1.own b hb (by rw[ho];exact hc)
        · exact(hinfo b o hb).2.2.2
      · obtain⟨o,ho⟩:=Option.isSome_iff_exists.1 hb
        rw[ho]at hc
        rcases bV ho with⟨rfl,rfl⟩ | ⟨h1,h2⟩
        · cases hc
        · rcases hget b o h2 with h2 | h2
          · exact(hinfo b o h2).2.2.2.rd
          · exact K1.rd b (by rw[h2];rfl) (by rw[h2];exact hc)
    · obtain⟨rfl,_,_⟩:=fV e1
      obtain⟨rfl,_,_⟩:=fV e2
      exact absurd rfl hne
    · obtain⟨rfl,rfl,rfl⟩:=fV e
      have hb:b=γ.Wg:=hb
      subst hb
      rw[bH]at ho;cases ho;rfl
    · obtain⟨rfl,rfl,rfl⟩:=fV e
      rcases bV ho with⟨rfl,rfl⟩ | ⟨h1,h2⟩
      · rfl
      · rcases hget b o h2 with h2 | h2
        · have:=dU hf
          rw[(hinfo b o h2).2.1]at this;cases this
        · rcases I.Y.fk b 0 k₀ aO o hpr h2 hf with h3 | ⟨hm,h3⟩
          · exact h3
          · rw[h3,I.mm hm]at h2;cases h2
    · have hb:b=γ.Wg:=hb.resolve_right fun h=>h
      subst hb
      exact I.Y.lt _ (.inl (.inl rfl))
  · rcases Nat.lt_or_ge i qs.length with hiq | hiq
    · rw[List.getElem?_append_left hiq]at hi
      exact I.quit' hlt hi (by omega) fun op hop=>by rw[hu op hop];omega
    · rw[List.getElem?_append_right hiq]at hi
      have hil:i-qs.length<ws.length:=by rw[←RF];exact lt_of_some hi
      have em:=List.getElem?_eq_getElem hil
      obtain⟨q',h1,h2,h3⟩:=hqw _ _ em
      rw[hi]at h1;cases h1
      obtain⟨A,hA⟩:=aaZ hil
      obtain⟨m',hm',hl'⟩:=done hA
      rw[em]at hm';cases hm'
      obtain⟨_,_,r,hr1,_,_⟩:=I.lU.done _ _ A em hA hl'
      have hidx:qs.length+1+(i-qs.length)=i+1:=by omega
      have hgs:=(I.zF em).2.2.2.2
      rw[hidx]at hgs
      refine⟨_,by rw[jF hlt,if_neg (by omega),hgs,Option.map_some,pI h3.status],h3,fun n hc hg=>?_⟩
      rcases Nat.lt_or_ge n t.size with hn | hn
      · rw[g?_old hn]at hg
        have hc':=(counts_old hn).1 hc
        have hle:n≤r:=Nat.le_of_not_lt fun hlt'=>hr1.after n hlt' (by rw[hidx];exact hg) hc'
        exact know hr1 (LM hg (by rw[←hidx];exact hr1.g) hle)
      · obtain⟨op,ho,hog⟩:=Option.map_eq_some_iff.1 hg
        rcases getElem?_append_cases ho with⟨h4,_⟩ | ⟨_,h4⟩
        · omega
        · rw[hu op h4]at hog;omega
  · rcases hb with hb | ⟨o,hb⟩
    · exact I.low 0 k₀ aO b hpr hb
    · exact I.rM b (.inr (wS b o hb))
end
end Go.aS

/- The machine, inside a group: a worker's move, whatever it is. Conditions: none; over any program. -/
namespace Go.aS
open Go.Conc (crowd parked rcase scase QuitsIn QuitsD Before Knows knows_own touchAt touchAt_of touchAt_old getElem?_append_old getElem?_append_cases lt_size_of_getElem? touch_of hb_po hb_app ofEvents_eq woken Deaf deaf_old g?_old act?_old heard_old lt_of_act? Deaf_own Deaf_other counts_old deaf_inside)
open Go.ConcM (OsLater)
open Go.ConcN (RelBy)
theorem Jf{gs:Array Goroutine}{i:Nat}{g g':Goroutine}(h:gs[i]? =some g)(hg:g.status= .running)(hg':g'.status= .blocked):O8 (gs.setIfInBounds i g')<O8 gs:=by
 have key:∀(l:List Goroutine) (i:Nat),l[i]? =some g→(l.set i g').countP (fun g=>g.status== .running)<l.countP fun g=>g.status== .running:=by
  intro l
  induction l with
  | nil=>intro i h;simp at h
  | cons y l ih=>
   intro i h
   cases i with
   | zero=>
    simp only[List.getElem?_cons_zero,Option.some.injEq]at h
    subst h
    rw[List.set_cons_zero,List.countP_cons,List.countP_cons,hg,hg']
    simp
   | succ i=>
    simp only[List.getElem?_cons_succ]at h
    have:=ih i h
    rw[List.set_cons_succ,List.countP_cons,List.countP_cons]
    omega
 unfold O8
 rw[Array.toList_setIfInBounds]
 exact key _ i (by simpa using h)

section
variable{P:Program}{γ:GP}{gs:Array Goroutine}{w w':World}{t u:Trace}{k:Hp}{M:Nat→Prop}{k₀ vI:Hp}{aO vJ:Nat→Prop}{d₀ BU:Nat}{qs:List (Nat×Nat)}{left:Nat}{p p':MP}{x x':XS}{ws:List (Σ j,WM P γ j)}{tl tl':TL}{esc pJ:List ah}
theorem uK{g:Goroutine}:gs.map (woken P g {g with status:=.blocked} w)=gs:=by
 have:woken P g {g with status:=.blocked} w=id:=by
  funext o
  rw[qR,if_neg];rfl
  simp[wakes]
 rw[this];simp

theorem wU{G:Grp}(h:uF G w x)(h':uF G w' x')(e:w'.heap[G.Wg]? =w.heap[G.Wg]?):x'.g.ws=x.g.ws:=by
 have h1:=h'.2
 rw[e,h.2]at h1
 simp only[zo,Option.some.injEq,Obj.cells.injEq,Array.mk.injEq,List.cons.injEq,Value.int.injEq,true_and,and_true]at h1
 omega
theorem abx{G:Grp}{a:LA}{r:WR}{d:Nat}(hc:eX G a (.dn r d))(ha:a≠ .tN)(h:uF G w x)(h':uF G (gJ G a x w) x'):x'.g.ws=x.g.ws:=by
 have cell:∀v:Value,uF G (w.setCell (cell0 G.Wg) v) x'→x'.g.ws=x.g.ws:=fun v h'=>by
  have h1:=h'.2
  rw[show cell0 G.Wg=⟨G.Wg,0,none⟩from rfl,setCell_at h.2]at h1
  simp only[zo,Option.some.injEq,Obj.cells.injEq]at h1
  have h2:=congrArg (fun a=>a[1]?) h1.1
  simp at h2
  omega
 cases a with
 | Fa=>exact wU h h' rfl
 | en=>exact wU h h' rfl
 | non=>exact wU h h' rfl
 | Nl=>exact wU h h' rfl
 | BR=>exact wU h h' rfl
 | wsub=>exact cell _ h'
 | rF=>exact cell _ h'
 | tN=>exact absurd rfl ha
 | _=>exact hc.elim

theorem dB.split{P:Program}{m:Bool}{π:jM}{E:π.S→Goroutine→Prop}{s:π.S}{g:Goroutine}(T:dB P m π E s g):
  (∃hs h,T= .exit hs h)∨(∃(g':Goroutine) (hs:g.status= .running) (e:∀w,stepG P m g w= .go g' w #[]) (T':dB P m π E s g'),T= .idle hs e T')∨∃a hs hc ho wait ok wk fr h,T= .act a hs hc ho wait ok wk fr h:=by
 cases T with
 | exit hs h=>exact .inl ⟨hs,h,rfl⟩
 | idle hs e T=>exact .inr (.inl ⟨_,hs,e,T,rfl⟩)
 | act a hs hc ho wait ok wk fr h=>exact .inr (.inr ⟨a,hs,hc,ho,wait,ok,wk,fr,h,rfl⟩)

inductive TT[Base](P:Program)(γ:GP)(gs:Array Goroutine)(w:World)(t:Trace)(k₀:Hp)(aO:Nat→Prop)(d₀:Nat)(qs:List (Nat×Nat))(left:Nat)(p:MP)(x:XS)(ws:List (Σ j,WM P γ j))(i:Nat)(m:Σ j,WM P γ j)(sl:Option (Nat×Nat)):Prop
 | go {ga ga':Goroutine} {w':World} {ops:Array MemOp} {x':XS} {tl':TL} {pJ:List ah} {m':Σ j,WM P γ j} (h:runT P (crowd gs w sl) (qs.length+1+i)=(.next (crowd ((gs.map (woken P ga ga' w')).setIfInBounds (qs.length+1+i) ga') w' sl),ops))
   (I:dZ P γ ((gs.map (woken P ga ga' w')).setIfInBounds (qs.length+1+i) ga') w' (t++ops) k₀ aO d₀ qs left p x' (ws.set i m') tl' pJ) (hR:Relation.TransGen Fb m' m) (hw:x.g.ws=0→x'.g.ws=0∨wakes P ga ga'=true)
 | wait {g':Goroutine} {ops:Array MemOp} {tl':TL} {pJ:List ah} {ws':List (Σ j,WM P γ j)} (h:runT P (crowd gs w sl) (qs.length+1+i)=(.next (crowd (gs.setIfInBounds (qs.length+1+i) g') w sl),ops)) (I:dZ P γ (gs.setIfInBounds (qs.length+1+i) g') w (t++ops) k₀ aO d₀ qs left p x ws' tl' pJ) (hn:O8 (gs.setIfInBounds (qs.length+1+i) g')<O8 gs) (hR:ws'=ws∨∃m',ws'=ws.set i m'∧Relation.TransGen Fb m' m)

theorem set_set{α:Type}{l:List α}{i:Nat}{a b:α}:(l.set i a).set i b=l.set i b:=by
 apply List.ext_getElem?
 intro j
 simp only[List.getElem?_set,List.length_set]
 split
 ·split <;>rfl
 ·rfl
theorem FI{α:Type}{l:List α}{i:Nat}{a b:α}(h:l[i]? =some a):(l.set i b)[i]? =some b:=by
 rw[List.getElem?_set,if_pos rfl,if_pos (lt_of_some h)]

theorem TT.pre[Base]{i:Nat}{m m₁:Σ j,WM P γ j}{sl:Option (Nat×Nat)}(h:TT P γ gs w t k₀ aO d₀ qs left p x (ws.set i m₁) i m₁ sl)(hr:Fb m₁ m):TT P γ gs w t k₀ aO d₀ qs left p x ws i m sl:=by
 cases h with
 | go h I hR hw=>exact .go h (by rw[set_set]at I;exact I) (hR.tail hr) hw
 | wait h I hn hR=>
  refine .wait h I hn (.inr ?_)
  rcases hR with rfl | ⟨m',rfl,hR⟩
  ·exact⟨m₁,rfl,.single hr⟩
  ·exact⟨m',set_set,hR.tail hr⟩

theorem dZ.ac_[Base]{i:Nat}{sl:Option (Nat×Nat)}:∀m,Acc (Fb (P:=P) (γ:=γ)) m→∀{ws:List (Σ j,WM P γ j)} {tl:TL},dZ P γ gs w t k₀ aO d₀ qs left p x ws tl esc→ws[i]? =some m→∀{g:Goroutine},gs[qs.length+1+i]? =some g→g.status= .running→TT P γ gs w t k₀ aO d₀ qs left p x ws i m sl:=by
 intro m hacc
 induction hacc with
 | intro m hacc ih=>
  intro ws tl I hi g hg hs
  have hgm:g=m.2.g:=by
   obtain⟨_,_,g₁,h1,h2⟩:=I.wG i m hi
   rw[hg]at h1;cases h1
   rcases h2 with h2 | ⟨_,_,_,_,rfl⟩
   ·exact h2
   ·cases hs
  subst hgm
  obtain⟨j,m⟩:=m
  have hb:((qs.length+1+i)==0)=false:=by simp
  have hpr:∀k M,m.act=some (k,M)→AU k₀ aO qs.length ws (qs.length+1+i)=some (k,M):=fun k M e=>(iL hi).trans e
  cases m with
  | run T=>
   rename_i g k M
   cases T with
   | step hs ok h=>
    have K:=I.Y.DZ _ k M (hpr k M rfl)
    obtain⟨g',w',es,hst,gu⟩:=ok w K.uG K.dom
    refine .go (m':=⟨j,.run (h w g' w' es K.uG K.dom hst)⟩) (Conc.runT_crowd_go hg (by rw[hb];exact hst)) (I.acW hi gu) (.single .step) fun h=>.inl h
   | lock hm hk hM E T hE h=>
    have I':=I.acZ hi hg
    exact(ih _ .lock I' (FI hi) hg hs).pre .lock
   | unlock hm hk hM hC Ho ht hJ E T hE h=>
    obtain⟨hk',hM',I'⟩:=I.Zy hi hg
    exact(ih _ .unlock I' (FI hi) hg hs).pre .unlock
   | done hk A hA hn hR T=>
    have I':=I.ac0 hi hg
    exact(ih _ .done I' (FI hi) hg hs).pre .done
  | vF E k M hm hk hM hE h tk T=>
   rename_i s g
   rcases T.split with⟨hs',he,rfl⟩ | ⟨g',hs',e,T,rfl⟩ | ⟨a,hs',hc,ho,wait,ok,wk,fr,hh,rfl⟩
   ·
    obtain⟨l,c,h1,h2,h3,I'⟩:=I.Zz hi hg
    exact(ih _ .TG I' (FI hi) hg hs).pre .TG
   ·
    exact .go (m':=⟨j,.vF E k M hm hk hM hE h tk T⟩) (Conc.runT_crowd_go hg (by rw[hb];exact e w)) (I.Nr T hi) (.single .Nr) fun h=>.inl h
   ·
    by_cases hbl:jk a x
    ·have hok:=(I.wG i _ hi).2.1
     obtain⟨_,r,o,B,d,b,rfl,_,_⟩:=hok
     have hmap:(ws.map fun m=>m.2.wa)[i]? =some ⟨r,.live,true,o,B⟩:=by simp[hi,WM.wa]
     have hrel:rG a (.mu r o B d b) x:=I.N.TF hmap rfl
     have hst:=wait w x I.at_ hrel hbl
     have ha:r= .AP∧x.m.ms=0:=by
      cases a <;>first | exact hbl.elim | skip
      ·exact⟨hc.2.2.2.1,hbl⟩
      ·exact hc.elim
     have hg:gs[qs.length+1+i]? =some g:=hg
     have hrun:=Conc.runT_crowd_go (P:=P) (w:=w) (sl:=sl) hg (by rw[hb];exact hst)
     have I':=I.waits (g:=g) (fn:=g.frame.fn) (pos:=g.frame.place) hi ha.1 ha.2 rfl hs ho
     rw[uK]at hrun I'
     exact .wait hrun I' (Jf hg hs rfl) (.inl rfl)
    ·obtain⟨g',s',hr,hst,hn,tk',x',tl',I'⟩:=I.Rn hi hbl g.frame.fn g.frame.place
     refine .go (m':=⟨j,.vF E k M hm hk hM hE h tk' (hh w x g' _ _ s' I.at_ hr hbl hst hn)⟩) (Conc.runT_crowd_go hg (by rw[hb];exact hst)) I' (.single .Rn) fun h=>.inl ?_
     have hok:=(I.wG i _ hi).2.1
     obtain⟨_,r,o,B,d,b,rfl,_,_⟩:=hok
     rw[wU I.at_ I'.at_ ((NC (x:=x) (w:=w) hc).off _ (I.geo.resolve_right hm))];exact h
  | xY E k M hm hk hM tg ht hE h tk T=>
   rename_i s g
   rcases T.split with⟨hs',he,rfl⟩ | ⟨g',hs',e,T,rfl⟩ | ⟨a,hs',hc,ho,wait,ok,wk,fr,hh,rfl⟩
   ·
    have I':=I.U4 hi hg
    exact(ih _ .TJ I' (FI hi) hg hs).pre .TJ
   ·
    exact .go (m':=⟨j,.xY E k M hm hk hM tg ht hE h tk T⟩) (Conc.runT_crowd_go hg (by rw[hb];exact e w)) (I.Ns T hi) (.single .Ns) fun h=>.inl h
   ·
    by_cases hbl:jk a x
    ·have hok:=(I.wG i _ hi).2.1
     obtain⟨r,o,B,d,b,rfl,_,_,_⟩:=hok
     have hmap:(ws.map fun m=>m.2.wa)[i]? =some ⟨r,.live,true,o,B⟩:=by simp[hi,WM.wa]
     have hrel:rG a (.mu r o B d b) x:=I.N.TF hmap rfl
     have hst:=wait w x I.at_ hrel hbl
     have ha:r= .AP∧x.m.ms=0:=by
      cases a <;>first | exact hbl.elim | skip
      ·exact⟨hc.2.2.2.1,hbl⟩
      ·exact hc.elim
     have hg:gs[qs.length+1+i]? =some g:=hg
     have hrun:=Conc.runT_crowd_go (P:=P) (w:=w) (sl:=sl) hg (by rw[hb];exact hst)
     have I':=I.waits (g:=g) (fn:=g.frame.fn) (pos:=g.frame.place) hi ha.1 ha.2 rfl hs ho
     rw[uK]at hrun I'
     exact .wait hrun I' (Jf hg hs rfl) (.inl rfl)
    ·obtain⟨g',s',hr,hst,hn,tk',x',tl',I'⟩:=I.Ro hi hbl g.frame.fn g.frame.place
     refine .go (m':=⟨j,.xY E k M hm hk hM tg ht hE h tk' (hh w x g' _ _ s' I.at_ hr hbl hst hn)⟩) (Conc.runT_crowd_go hg (by rw[hb];exact hst)) I' (.single .Ro) fun h=>.inl ?_
     have hok:=(I.wG i _ hi).2.1
     obtain⟨r,o,B,d,b,rfl,_,_,_⟩:=hok
     rw[wU I.at_ I'.at_ ((NC (x:=x) (w:=w) hc).off _ (I.geo.resolve_right hm))];exact h
  | fin pre T=>
   rename_i s g
   rcases T.split with⟨hs',he,rfl⟩ | ⟨g',hs',e,T,rfl⟩ | ⟨a,hs',hc,ho,wait,ok,wk,fr,hh,rfl⟩
   ·
    obtain⟨n,hn,I'⟩:=I.ac1 hi hg
    exact(ih _ .TM I' (FI hi) hg hs).pre .TM
   ·
    exact .go (m':=⟨j,.fin pre T⟩) (Conc.runT_crowd_go hg (by rw[hb];exact e w)) (I.Nu T hi) (.single .Nu) fun h=>.inl h
   ·
    obtain⟨g',s',hr,hnb,hst,hn,pre',x',pJ,I'⟩:=I.Rq hi g.frame.fn g.frame.place
    refine .go (m':=⟨j,.fin pre' (hh w x g' _ _ s' I.at_ hr hnb hst hn)⟩) (Conc.runT_crowd_go hg (by rw[hb];exact hst)) I' (.single .Rq) fun h=>?_
    by_cases ha:a= .tN
    ·refine .inr ?_
     have h1:mayWake P g=true:=wk (.inr ha)
     have h2:g'.status= .running:=(hh w x g' _ _ s' I.at_ hr hnb hst hn).status
     show(mayWake P g&&g'.status != .blocked&&g'.status != .waiting)=true
     rw[h1,h2];rfl
    ·have hok:=(I.wG i _ hi).2.1
     obtain⟨_,r,d,rfl,_,_⟩:=hok
     exact .inl ((abx hc ha I.at_ I'.at_).trans h)
  | I4 n hq=>
   rename_i g
   cases n with
   | zero=>
    have hs:g.status= .running:=hs
    rw[show g.status=_ from hq]at hs;cases hs
   | succ n=>
    rcases id hq with h1 | ⟨_,g',hst,hq'⟩
    ·have hs:g.status= .running:=hs
     rw[hs]at h1;cases h1
    ·exact .go (m':=⟨j,.I4 n hq'⟩) (Conc.runT_crowd_go hg (by rw[hb];exact hst w)) (I.ZA hq' hi) (.single .left) fun h=>.inl h
end
end Go.aS

/- A place of the starter's: the others move, until it does. Conditions: none; over any program. -/
namespace Go.aS
open Go.Conc (crowd parked rcase scase QuitsIn QuitsD Before Knows knows_own touchAt touchAt_of touchAt_old getElem?_append_old getElem?_append_cases lt_size_of_getElem? touch_of hb_po hb_app ofEvents_eq woken Deaf deaf_old g?_old act?_old heard_old lt_of_act? Deaf_own Deaf_other counts_old deaf_inside)
open Go.ConcM (OsLater)
open Go.ConcN (RelBy)
theorem aby{α:Type}{r:α→α→Prop}{a:α}(h:Acc r a):Acc (Relation.TransGen r) a:=by
 induction h with
 | intro a _ ih=>
  refine⟨_,fun b hb=>?_⟩
  have key:∀{b c},Relation.TransGen r b c→c=a→Acc (Relation.TransGen r) b:=by
   intro b c hb
   induction hb with
   | single h=>intro e;subst e;exact ih _ h
   | tail h1 h2 ih2=>intro e;subst e;exact(ih _ h2).inv h1
  exact key hb rfl

section
variable{P:Program}{γ:GP}{D:Nat→Prop}{Q:Machine→Outcome→World→Trace→Prop}{gs:Array Goroutine}{w w':World}{t u:Trace}{k:Hp}{M:Nat→Prop}{k₀ vI:Hp}{aO vJ:Nat→Prop}{d₀ BU:Nat}{qs:List (Nat×Nat)}{left j:Nat}{p p':MP}{x x':XS}{ws:List (Σ j,WM P γ j)}{tl tl':TL}{esc pJ:List ah}
/-! ### outside a group -/
abbrev zG[Base](P:Program)(D:Nat→Prop)(k:Hp)(M:Nat→Prop)(g:Goroutine)(qs:List (Nat×Nat))(gs:Array Goroutine)(w:World)(t:Trace):Prop:=sO P D gs w t k M qs∧gs[0]? =some g

theorem awake_of{g:Goroutine}(h:g.status= .running∨g.status= .finished∨g.status= .blocked):Conc.awake g:=fun tm e=>by
 rcases h with h | h | h <;>rw[h]at e <;>cases e

theorem zG.ends[Base]{g:Goroutine}(hs:g.status= .running)
  (mv:∀qs gs w t sl,zG P D k M g qs gs w t→Move P Q (zu QR) (zG P D k M g) qs gs w t sl 0):∀qs gs w t sl,zG P D k M g qs gs w t→Ends P Q (crowd gs w sl) t:=by
 intro qs
 refine node (R:=zu QR) (Inv:=zG P D k M g) (fun c gs w t d I=>⟨I.1.at d,I.2⟩) (fun c gs w t I=>⟨fun g' hg'=>?_,0,g,I.2,hs⟩) (fun c hc gs w t sl i g' I hi hr=>?_) qs (D5 fun p _=>Xl p)
 ·obtain⟨i,hlt,e⟩:=Array.mem_iff_getElem.1 hg'
  have hi:gs[i]? =some g':=by rw[←e];exact Array.getElem?_eq_getElem hlt
  cases i with
  | zero=>rw[I.2]at hi;cases hi;exact awake_of (.inl hs)
  | succ i=>
   have hl:i<c.length:=by have:=I.1.size;omega
   obtain⟨g₁,h1,h2,_⟩:=I.1.quit i _ (List.getElem?_eq_getElem hl)
   rw[hi]at h1;cases h1
   exact awake_of (h2.status.imp id .inl)
 ·cases i with
  | zero=>exact mv c gs w t sl I
  | succ i=>
   have hlt:i+1<gs.size:=(Array.getElem?_eq_some_iff.1 hi).1
   have hl:i<c.length:=by have:=I.1.size;omega
   have hq:=List.getElem?_eq_getElem hl
   obtain⟨g₁,h1,h2,_⟩:=I.1.quit i _ hq
   rw[hi]at h1;cases h1
   obtain⟨n',g₂,es,hn,hm,hst,hq'⟩:=Jc h2 hr
   have I':=I.1.Jd (g:=g') (fn:=g'.frame.fn) (pos:=g'.frame.place) hq hm hq'
   refine .less (Conc.runT_crowd_go hi (hst w)) ⟨I',?_⟩ (zu.at (show QR _ _ from ?_) hq)
   ·rw[jF hlt,if_neg (by omega),I.2,Option.map_some,pI (.inl hs)]
   ·show n'<(c[i]).1
    omega

/-! ### inside one -/
inductive Xr{P:Program}{γ:GP}:(List (Nat×Nat)×List (Σ j,WM P γ j))→(List (Nat×Nat)×List (Σ j,WM P γ j))→Prop
 | q {qs qs':List (Nat×Nat)} {ws:List (Σ j,WM P γ j)} (h:zu QR qs' qs):Xr (qs',ws) (qs,ws)
 | w {qs:List (Nat×Nat)} {ws ws':List (Σ j,WM P γ j)} (h:zu (Relation.TransGen Fb) ws' ws):Xr (qs,ws') (qs,ws)
theorem abz:∀c:List (Nat×Nat)×List (Σ j,WM P γ j),Acc Xr c:=by
 rintro⟨qs,ws⟩
 have hq:Acc (zu QR) qs:=D5 fun p _=>Xl p
 have hw:Acc (zu (Relation.TransGen Fb)) ws:=D5 fun p _=>aby (WZ p)
 induction hq generalizing ws with
 | intro qs hq0 ihq=>
  induction hw with
  | intro ws hw ihw=>
   refine⟨_,fun y hy=>?_⟩
   cases hy with
   | q h=>exact ihq _ h ws ⟨_,hw⟩
   | w h=>exact ihw _ h

def Ht[Base](P:Program)(γ:GP)(k₀:Hp)(aO:Nat→Prop)(left j:Nat)(p:MP)(d:Nat)(g:Goroutine)(c:List (Nat×Nat)×List (Σ j,WM P γ j))(gs:Array Goroutine)(w:World)(t:Trace):Prop:=
 ∃x tl esc gm,dZ P γ gs w t k₀ aO d c.1 left p x c.2 tl esc∧gs[0]? =some gm∧c.2.length=j∧(gm=g∨(p= .reg∧x.g.ws=0∧g.offers=none∧gm={g with status:=.blocked}))

theorem dZ.at[Base](I:dZ P γ gs w t k₀ aO d₀ qs left p x ws tl esc)(d:Nat):dZ P γ gs (w.at d) t k₀ aO d₀ qs left p x ws tl esc:=by
 refine⟨I.size,I.Y.at d,I.quit,I.wG,I.N,I.at_,I.Ri,fun h=>⟨(I.wP h).free,fun i e=>?_⟩,⟨I.lU.len,I.lU.nodup,I.lU.live,I.lU.done⟩,I.base.at d,I.low,I.rM,I.geo,I.pF,I.jc,I.mm⟩
 obtain⟨⟨m,h1,h2,h3⟩,h4⟩:=(I.wP h).held i e
 refine⟨⟨m,h1,h2,?_⟩,h4⟩
 obtain⟨j,m⟩:=m
 cases m <;>exact h3

theorem dZ.some1[Base](I:dZ P γ gs w t k₀ aO d₀ qs left .reg x ws tl esc)(h0:x.g.ws=0):∃(i:Nat) (g:Goroutine),gs[i]? =some g∧g.status= .running:=by
 have run:∀(i:Nat) (m:Σ j,WM P γ j),ws[i]? =some m→m.2.wa.wr≠ .gone→m.2.wa.r≠ .AP→∃(i:Nat) (g:Goroutine),gs[i]? =some g∧g.status= .running:=fun i m hi hg hr=>by
  obtain⟨_,_,g,h1,h2⟩:=I.wG i m hi
  rcases h2 with rfl | h2
  ·refine⟨_,_,h1,?_⟩
   obtain⟨j,m⟩:=m
   cases m with
   | run T=>exact T.status
   | vF E k M hm hk hM hE h tk T=>exact T.status
   | xY E k M hm hk hM tg ht hE h tk T=>exact T.status
   | fin pre T=>exact T.status
   | I4 n hq=>exact absurd rfl hg
  ·exact absurd h2.1 hr
 have hlive:∃(i:Nat) (m:Σ j,WM P γ j),ws[i]? =some m∧m.2.wa.wr≠ .gone:=by
  have:=I.N.Ik.goes h0
  have key:∀r:WR,r≠ .gone→0<cW (ws.map fun m=>m.2.wa) r→∃(i:Nat) (m:Σ j,WM P γ j),ws[i]? =some m∧m.2.wa.wr≠ .gone:=fun r hr hp=>by
   obtain⟨i,a,hi,ha⟩:=UZ hp
   rw[List.getElem?_map]at hi
   obtain⟨m,hm,rfl⟩:=Option.map_eq_some_iff.1 hi
   exact⟨i,m,hm,by rw[ha];exact hr⟩
  by_cases h1:0<cW (ws.map fun m=>m.2.wa) .live
  ·exact key _ (by simp) h1
  by_cases h2:0<cW (ws.map fun m=>m.2.wa) .s1
  ·exact key _ (by simp) h2
  by_cases h3:0<cW (ws.map fun m=>m.2.wa) .s2
  ·exact key _ (by simp) h3
  by_cases h4:0<cW (ws.map fun m=>m.2.wa) .s3
  ·exact key _ (by simp) h4
  by_cases h5:0<cW (ws.map fun m=>m.2.wa) .s4
  ·exact key _ (by simp) h5
  omega
 obtain⟨i,m,hi,hg⟩:=hlive
 by_cases hr:m.2.wa.r= .AP
 ·by_cases hms:x.m.ms=0
  ·have hmap:(ws.map fun m=>m.2.wa)[i]? =some m.2.wa:=by simp[hi]
   have hp:=rJ hmap
   rw[hr]at hp
   have:=I.N.tV.goes hp hms
   have key:∀r:MR,r≠ .AP→r≠ .fin→0<cR (ws.map fun m=>m.2.wa) r→∃(i:Nat) (g:Goroutine),gs[i]? =some g∧g.status= .running:=fun r h1 h2 hp=>by
    obtain⟨i,a,hi,ha⟩:=UY hp
    have hi':=hi
    rw[List.getElem?_map]at hi
    obtain⟨m,hm,rfl⟩:=Option.map_eq_some_iff.1 hi
    refine run i m hm (fun e=>h2 ?_) (by rw[ha];exact h1)
    rw[←ha]
    exact I.N.live i _ hi' (by rw[e];simp)
   by_cases h1:0<cR (ws.map fun m=>m.2.wa) .FD
   ·exact key _ (by simp) (by simp) h1
   by_cases h2:0<cR (ws.map fun m=>m.2.wa) .tok
   ·exact key _ (by simp) (by simp) h2
   by_cases h3:0<cR (ws.map fun m=>m.2.wa) .hnd
   ·exact key _ (by simp) (by simp) h3
   by_cases h4:0<cR (ws.map fun m=>m.2.wa) .hold
   ·exact key _ (by simp) (by simp) h4
   by_cases h5:0<cR (ws.map fun m=>m.2.wa) .Nh
   ·exact key _ (by simp) (by simp) h5
   by_cases h6:0<cR (ws.map fun m=>m.2.wa) .rel
   ·exact key _ (by simp) (by simp) h6
   by_cases h7:0<cR (ws.map fun m=>m.2.wa) .wK
   ·exact key _ (by simp) (by simp) h7
   omega
  ·
   obtain⟨_,_,g,h1,h2⟩:=I.wG i m hi
   rcases h2 with rfl | h2
   ·refine⟨_,_,h1,?_⟩
    rcases m.2.status with h | h
    ·exact h
    ·obtain⟨j,m⟩:=m
     cases m with
     | I4 n hq=>exact absurd rfl hg
     | run T=>exact T.status
     | vF E k M hm hk hM hE h tk T=>exact T.status
     | xY E k M hm hk hM tg ht hE h tk T=>exact T.status
     | fin pre T=>exact T.status
   ·exact absurd h2.2.1 hms
 ·exact run i m hi hg hr

theorem Ht.ends[Base]{g:Goroutine}(hs:g.status= .running){d:Nat}
  (mv:∀c gs w t sl,Ht P γ k₀ aO left j p d g c gs w t→gs[0]? =some g→Move P Q Xr (Ht P γ k₀ aO left j p d g) c gs w t sl 0):∀c gs w t sl,Ht P γ k₀ aO left j p d g c gs w t→Ends P Q (crowd gs w sl) t:=by
 intro c
 refine node (R:=Xr) (Inv:=Ht P γ k₀ aO left j p d g) (fun c gs w t d I=>?_) (fun c gs w t I=>?_) (fun c hc gs w t sl i g' I hi hr=>?_) c (abz c)
 ·obtain⟨x,tl,esc,gm,I,h⟩:=I
  exact⟨x,tl,esc,gm,I.at d,h⟩
 ·obtain⟨x,tl,esc,gm,I,h0,hj,hm⟩:=I
  refine⟨fun g' hg'=>?_,?_⟩
  ·obtain⟨i,hlt,e⟩:=Array.mem_iff_getElem.1 hg'
   have hi:gs[i]? =some g':=by rw[←e];exact Array.getElem?_eq_getElem hlt
   have hsz:=I.size
   cases i with
   | zero=>
    rw[h0]at hi;cases hi
    rcases hm with rfl | ⟨_,_,_,rfl⟩
    ·exact awake_of (.inl hs)
    ·exact awake_of (.inr (.inr rfl))
   | succ i=>
    rcases Nat.lt_or_ge i c.1.length with hl | hl
    ·obtain⟨g₁,h1,h2,_⟩:=I.quit i _ (List.getElem?_eq_getElem hl)
     rw[hi]at h1;cases h1
     exact awake_of (h2.status.imp id .inl)
    ·have hl':i-c.1.length<c.2.length:=by omega
     obtain⟨_,_,g₁,h1,h2⟩:=I.wG _ _ (List.getElem?_eq_getElem hl')
     rw[show c.1.length+1+(i-c.1.length)=i+1 by omega,hi]at h1;cases h1
     rcases h2 with rfl | ⟨_,_,_,_,rfl⟩
     ·exact awake_of ((WM.status _).imp id .inl)
     ·exact awake_of (.inr (.inr rfl))
  ·rcases hm with rfl | ⟨rfl,h1,_,rfl⟩
   ·exact⟨0,_,h0,hs⟩
   ·exact I.some1 h1
 ·have I0:=I
  obtain⟨x,tl,esc,gm,I,h0,hj,hm⟩:=I
  have hlt:i<gs.size:=(Array.getElem?_eq_some_iff.1 hi).1
  have hsz:=I.size
  have main:∀{ga ga':Goroutine} {w':World} {x':XS},i≠0→(x.g.ws=0→x'.g.ws=0∨wakes P ga ga'=true)→∃gm',((gs.map (woken P ga ga' w')).setIfInBounds i ga')[0]? =some gm'∧(gm'=g∨(p= .reg∧x'.g.ws=0∧g.offers=none∧gm'={g with status:=.blocked})):=by
   intro ga ga' w' x' hne hw
   refine⟨woken P ga ga' w' gm,by rw[jF hlt,if_neg (Ne.symm hne),h0];rfl,?_⟩
   rcases hm with rfl | ⟨h1,h2,h3,rfl⟩
   ·exact .inl (pI (.inl hs))
   ·by_cases hwk:wakes P ga ga'=true
    ·left;rw[qR,if_pos hwk,zB hs h3]
    ·right
     rw[qR,if_neg hwk]
     exact⟨h1,(hw h2).resolve_right hwk,h3,rfl⟩
  cases i with
  | zero=>
   rw[hi]at h0;cases h0
   rcases hm with rfl | ⟨_,_,_,rfl⟩
   ·exact mv c gs w t sl I0 hi
   ·cases hr
  | succ i=>
   rcases Nat.lt_or_ge i c.1.length with hl | hl
   ·have hq:=List.getElem?_eq_getElem hl
    obtain⟨g₁,h1,h2,_⟩:=I.quit i _ hq
    rw[hi]at h1;cases h1
    obtain⟨n',g₂,es,hn,hmt,hst,hq'⟩:=Jc h2 hr
    have I':=I.Jd (g:=g') (fn:=g'.frame.fn) (pos:=g'.frame.place) hq hmt hq'
    obtain⟨gm',h3,h4⟩:=main (ga:=g') (ga':=g₂) (w':=w) (x':=x) (by omega) fun h=>.inl h
    refine .less (c':=(c.1.set i (n',deafBehind (c.1[i]).2 es),c.2)) (Conc.runT_crowd_go hi (hst w)) ⟨x,tl,esc,gm',I',h3,hj,h4⟩ (.q (zu.at (show QR _ _ from ?_) hq))
    show n'<(c.1[i]).1
    omega
   ·have hl':i-c.1.length<c.2.length:=by omega
    have hidx:c.1.length+1+(i-c.1.length)=i+1:=by omega
    have hw:=List.getElem?_eq_getElem hl'
    have mvw:=I.ac_ (sl:=sl) _ (WZ _) hw (by rw[hidx];exact hi) hr
    cases mvw with
    | go h I' hR hws=>
     rw[hidx]at h I'
     obtain⟨gm',h3,h4⟩:=main (by omega) hws
     exact .less (c':=(c.1,_)) h ⟨_,_,_,gm',I',h3,by simp[hj],h4⟩ (.w (zu.at hR hw))
    | wait h I' hn hR=>
     rw[hidx]at h I' hn
     have h3:∀g',(gs.setIfInBounds (i+1) g')[0]? =some gm:=fun g'=>by rw[Array.getElem?_setIfInBounds_ne (by omega)];exact h0
     rcases hR with rfl | ⟨m',rfl,hR⟩
     ·exact .wait h ⟨x,_,_,gm,I',h3 _,hj,hm⟩ hn
     ·exact .less (c':=(c.1,_)) h ⟨x,_,_,gm,I',h3 _,by simp[hj],hm⟩ (.w (zu.at hR hw))
end
end Go.aS

/- The starter in the group's library, and in the group. Conditions: none; over any program. -/
namespace Go.aS
open Go.Conc (crowd parked rcase scase QuitsIn QuitsD Before Knows knows_own touchAt touchAt_of touchAt_old getElem?_append_old getElem?_append_cases lt_size_of_getElem? touch_of hb_po hb_app ofEvents_eq woken Deaf deaf_old g?_old act?_old heard_old lt_of_act? Deaf_own Deaf_other counts_old deaf_inside)
open Go.ConcM (OsLater)
open Go.ConcN (RelBy)
section
variable{P:Program}{γ:GP}{D:Nat→Prop}{Q:Machine→Outcome→World→Trace→Prop}{gs:Array Goroutine}{w w':World}{t u:Trace}{k:Hp}{M:Nat→Prop}{k₀ vI:Hp}{aO vJ:Nat→Prop}{d₀ BU:Nat}{qs:List (Nat×Nat)}{left j:Nat}{p p':MP}{x x':XS}{ws:List (Σ j,WM P γ j)}{tl tl':TL}{esc pJ:List ah}
theorem sO.idle[Base](I:sO P D gs w t k M qs){g g':Goroutine}{fn:FuncId}{pos:String}:sO P D ((gs.map (woken P g g' w)).setIfInBounds 0 g') w (t++MemOp.ofEvents 0 fn pos #[]) k M qs:=by
 have hu:MemOp.ofEvents 0 fn pos #[]= #[]:=by rw[ofEvents_eq];simp
 have hlt:0<gs.size:=by have:=I.size;omega
 rw[hu,Array.append_empty]
 refine⟨by simp[I.size],I.Y,fun i q hi=>?_,I.base,I.low⟩
 obtain⟨g,h1,h2,h3⟩:=I.quit i q hi
 exact⟨g,by rw[jF hlt,if_neg (by omega),h1,Option.map_some,pI h2.status],h2,h3⟩

theorem RG{gs:Array Goroutine}{w':World}{g g' gm:Goroutine}(h:gs[0]? =some gm):((gs.map (woken P g g' w')).setIfInBounds 0 g')[0]? =some g':=by
 rw[jF (Array.getElem?_eq_some_iff.1 h).1,if_pos rfl]

theorem abB.ends[Base]{E:(aJ γ.toGrp).S→Goroutine→Prop}{s:(aJ γ.toGrp).S}{g:Goroutine}(T:jJ P true (aJ γ.toGrp) E s g):s= .wg .out 0→
  (∀g',E (.wg .out 0) g'→∀qs gs w t sl,zG P D k M g' qs gs w t→Ends P Q (crowd gs w sl) t)→∀qs gs w t sl,zG P D k M g qs gs w t→Ends P Q (crowd gs w sl) t:=by
 induction T with
 | exit hs he=>intro e hx;subst e;exact hx _ he
 | idle hs e T ih=>
  intro es hx
  refine zG.ends hs fun qs gs w t sl I=>?_
  exact .on (Conc.runT_crowd_go I.2 (e w)) (ih es hx qs _ _ _ _ ⟨I.1.idle,RG I.2⟩)
 | act a hs hc ho wait ok wk fr h ih=>
  intro es
  subst es
  exfalso
  have hc:eX γ.toGrp a (.wg .out 0):=hc
  cases a <;>simp_all[eX]

structure abC(γ:GP)(k₀:Hp)(aO:Nat→Prop)(j:Nat)(l:List Nat)(c:Obj)(As:List ah):Prop where
 len:As.length=j
 R:∀(i:Nat) (A:ah),As[i]? =some A→γ.R i A
 J:γ.mu≠none→γ.J l c∧l.Perm ((List.range j).filterMap γ.tag)
 nodup:((back γ c As).map (·.1)).Nodup
 new:∀b o,(b,o)∈back γ c As→k₀ b=none∧¬aO b∧o.isChan=false

theorem Lib.ends[Base]{tt ll:Nat}(hk:k₀ γ.Wg=some (sK tt j ll)){E:(aJ γ.toGrp).S→Goroutine→Prop}{s:(aJ γ.toGrp).S}{g:Goroutine}(T:jJ P true (aJ γ.toGrp) E s g):
  (∀p' d' g',E (.wg p' d') g'→p'≠ .out→∀c gs w t sl,Ht P γ k₀ aO left j p' d' g' c gs w t→Ends P Q (crowd gs w sl) t)→
  (∀g',E (.wg .out 0) g'→∀l c As,abC γ k₀ aO j l c As→∀qs gs w t sl,zG P (fun b=>b=γ.Wg) (hset (hadd k₀ (back γ c As)) γ.Wg Bj) (fun b=>aO b∨∃o,(b,o)∈back γ c As) g' qs gs w t→Ends P Q (crowd gs w sl) t)→
  ∀p d,s= .wg p d→p≠ .out→∀c gs w t sl,Ht P γ k₀ aO left j p d g c gs w t→Ends P Q (crowd gs w sl) t:=by
 induction T with
 | exit hs he=>intro hx _ p d e hp;subst e;exact hx p d _ he hp
 | idle hs e T ih=>
  intro hx hy p d es hp
  refine Ht.ends hs fun c gs w t sl I h0=>?_
  obtain⟨x,tl,esc,gm,I,h1,hj,_⟩:=I
  exact .on (Conc.runT_crowd_go h0 (e w)) (ih hx hy p d es hp c _ _ _ _ ⟨x,tl,esc,_,I.aaY,RG h0,hj,.inl rfl⟩)
 | act a hs hc ho wait ok wk fr h ih=>
  rename_i s g
  intro hx hy p d es hp
  subst es
  have hc:eX γ.toGrp a (.wg p d):=hc
  refine Ht.ends hs fun c gs w t sl I h0=>?_
  obtain⟨x,tl,esc,gm,I,h1,hj,hm⟩:=I
  have hrel:rG a (.wg p d) x:=I.N.ac8
  by_cases hbl:jk a x
  ·have hst:=wait w x I.at_ hrel hbl
   have ha:p= .reg∧x.g.ws=0:=by
    cases a <;>first | exact hbl.elim | skip
    ·exact hc.elim
    ·exact⟨hc.2,hbl⟩
   have hrun:=Conc.runT_crowd_go (P:=P) (w:=w) (sl:=sl) h0 hst
   have I':=I.aaY (g:=g) (g':={g with status:=.blocked}) (fn:=g.frame.fn) (pos:=g.frame.place)
   rw[uK]at hrun I'
   refine .wait hrun ⟨x,tl,esc,{g with status:=.blocked},I',?_,hj,.inr ⟨ha.1,ha.2,ho,rfl⟩⟩ (Jf h0 hs rfl)
   rw[Array.getElem?_setIfInBounds,if_pos rfl,if_pos (Array.getElem?_eq_some_iff.1 h0).1]
  ·obtain⟨g',hst,hrun'⟩:=ok w x I.at_ hrel hbl
   obtain⟨s',hn⟩:=D7 (x:=x) hc
   by_cases ha:a= .Hg
   ·subst ha
    obtain⟨rfl,rfl⟩:=hc
    have hs':s'= .wg .out 0:=hn
    subst hs'
    obtain⟨z,hz1,hz2,hz3⟩:=D8 (g:=0) (fn:=g.frame.fn) (pos:=g.frame.place) (m:=.acquire (cell0 γ.Wg))
    obtain⟨l,cc,As,qs',e1,e2,e3,e4,e5,O⟩:=I.close hk hz2 hz3 (ga:=g) (ga':=g')
    refine .on (Conc.runT_crowd_go h0 hst) ?_
    show Ends P Q (crowd ((gs.map (woken P g g' w)).setIfInBounds 0 g') w sl) (t++MemOp.ofEvents 0 g.frame.fn g.frame.place #[qo (.acquire (cell0 γ.Wg))])
    rw[hz1]
    exact abB.ends (h w x g' _ _ _ I.at_ hrel hbl hst hn) rfl (fun g'' hE=>hy g'' hE l cc As ⟨e1.trans hj,e2,by rw[←hj];exact e3,e4,e5⟩) qs' _ _ _ _ ⟨O,RG h0⟩
   ·obtain⟨p',d',x',rfl,I'⟩:=I.aeD hc ha hbl hn (g:=g) (g':=g') (fn:=g.frame.fn) (pos:=g.frame.place)
    refine .on (Conc.runT_crowd_go h0 hst) (ih w x g' _ _ _ I.at_ hrel hbl hst hn hx hy p' d' rfl ?_ c _ _ _ _ ⟨x',tl,esc,_,I',RG h0,hj,.inl rfl⟩)
    intro e
    subst e
    have hn:oP a (.wg p d) x (.wg .out d'):=hn
    cases a <;>simp only[oP]at hn <;>first | exact hp (by cases hn;rfl) | (cases hn;done) | (split at hn <;>cases hn;done) | exact ha rfl | exact hc.elim

theorem dZ.say[Base](I:dZ P γ gs w t k₀ aO d₀ qs left p x ws tl esc){a b c a' b' c':Nat}(hk:k₀ γ.Wg=some (sK a b c)):dZ P γ gs w t (hset k₀ γ.Wg (sK a' b' c')) aO d₀ qs left p x ws tl esc:=by
 have hpr:AU k₀ aO qs.length ws 0=some (k₀,aO):=jU
 have K:=I.Y.DZ 0 k₀ aO hpr
 have hC:∀b,isC (hset k₀ γ.Wg (sK a' b' c') b)=isC (k₀ b)∧(hset k₀ γ.Wg (sK a' b' c') b).isSome=(k₀ b).isSome:=fun b=>WU hk rfl rfl
 refine⟨I.size,?_,I.quit,I.wG,I.N,I.at_,I.Ri,I.wP,I.lU,I.base,fun g k M b hp hb=>?_,I.rM,I.geo,I.pF,I.jc,fun hm=>?_⟩
 ·refine(I.Y.set (g:=0) (k':=hset k₀ γ.Wg (sK a' b' c')) (M':=aO) ⟨fun b o ho=>?_,fun b hb=>by rw[(hC b).2];exact K.dom b hb,fun b hb hc=>K.own b hb (by rw[←(hC b).1];exact hc),fun b hb hc=>K.rd b (by rw[←(hC b).2];exact hb) (by rw[←(hC b).1];exact hc)⟩ (fun y k2 M2 hy h2=>⟨I.Y.apart 0 y k₀ aO k2 M2 (Ne.symm hy) hpr h2,fun b hb hs=>?_⟩) (fun b o ho=>?_) (fun b hb=>?_)).O7 fun g=>Po g
  ·rcases bV ho with⟨rfl,rfl⟩ | ⟨h1,h2⟩
   ·obtain⟨o',h3,_⟩:=K.uG _ _ hk
    exact⟨o',h3,.inr ⟨rfl,.inr (vg _ _ _)⟩⟩
   ·exact K.uG b o h2
  ·rw[(hC b).1]
   exact I.Y.apart y 0 k2 M2 k₀ aO hy h2 hpr b hb (by rw[←(hC b).2];exact hs)
  ·rcases bV ho with⟨rfl,rfl⟩ | ⟨h1,h2⟩
   ·exact⟨fun _=>vg _ _ _,fun _=>.inl rfl⟩
   ·exact⟨fun hb=>I.Y.Ij b 0 k₀ aO o hb hpr h2,fun hf=>I.Y.fk b 0 k₀ aO o hpr h2 hf⟩
  ·have hkb:=I.Y.uH b 0 k₀ aO hb hpr
   rw[bY _ _ (fun e=>by rw[e,hk]at hkb;cases hkb)];exact hkb
 ·rcases qQ hp with⟨rfl,rfl,rfl⟩ | ⟨j,n,rfl,hj,hn⟩
  ·exact I.low 0 _ _ b hpr hb
  ·exact I.low _ k M b (by rw[iL hj];exact hn) hb
 ·rw[bY _ _ (I.geo.resolve_right hm).symm];exact I.mm hm

theorem NH{a b c:Nat}:sK a b c≠Bj:=by simp[sK,Bj]

theorem wO.ends[Base]{Ex:Goroutine→Hp→(Nat→Prop)→Prop}(hEx:∀g k M,Ex g k M→∀qs gs w t sl,zG P (fun _=>False) k M g qs gs w t→Ends P Q (crowd gs w sl) t){g:Goroutine}{k:Hp}{M:Nat→Prop}(T:wO P γ Ex g k M):
  (∀tt j left,k γ.Wg=some (sK tt j left)→∀c gs w t sl,Ht P γ k M left j (.add tt) 0 g c gs w t→Ends P Q (crowd gs w sl) t)∧
  (k γ.Wg=some Bj→∀qs gs w t sl,zG P (fun b=>b=γ.Wg) k M g qs gs w t→Ends P Q (crowd gs w sl) t):=by
 induction T with
 | exit hk h=>
  rename_i g k M
  refine⟨fun tt j left e=>?_,fun _ qs gs w t sl I=>?_⟩
  ·rw[hk]at e;injection e with e;exact absurd e.symm NH
  ·have K:=I.1.Y.DZ 0 k M nJ
   refine hEx _ _ _ h qs gs w t sl ⟨I.1.set ⟨fun b o ho=>K.uG b o (iM ho).2,fun b hb=>by rw[iR _ hb.2];exact K.dom b hb.1,fun b hb hc=>K.own b hb.1 (by rw[iR _ hb.2]at hc;exact hc),fun b hb hc=>?_⟩ (fun b o ho=>⟨fun h=>h.elim,fun hf=>?_⟩) (fun b hb=>hb.elim) (fun b hb=>I.1.low b hb.1),I.2⟩
   ·obtain⟨o,ho⟩:=Option.isSome_iff_exists.1 hb
    obtain⟨h1,h2⟩:=iM ho
    rw[ho]at hc
    exact K.rd b (by rw[h2];rfl) (by rw[h2];exact hc)
   ·obtain⟨h1,h2⟩:=iM ho
    exact h1 (I.1.Y.fk b 0 k M o nJ h2 hf)
 | step hs ok h ih=>
  rename_i g k M
  refine⟨fun tt j left hk=>?_,fun hk=>?_⟩
  ·refine Ht.ends hs fun c gs w t sl I h0=>?_
   obtain⟨x,tl,esc,gm,I,_,hj,_⟩:=I
   have K:=I.Y.DZ 0 k M jU
   obtain⟨g',w',es,hst,gu⟩:=ok w K.uG K.dom
   exact .on (Conc.runT_crowd_go h0 hst) ((ih w g' w' es K.uG K.dom hst).1 tt j left (vk hk rfl) c _ _ _ _ ⟨x,tl,esc,_,I.ac7 gu,RG h0,hj,.inl rfl⟩)
  ·refine zG.ends hs fun qs gs w t sl I=>?_
   have K:=I.1.Y.DZ 0 k M nJ
   obtain⟨g',w',es,hst,gu⟩:=ok w K.uG K.dom
   exact .on (Conc.runT_crowd_go I.2 hst) ((ih w g' w' es K.uG K.dom hst).2 (vk hk rfl) qs _ _ _ _ ⟨I.1.step gu,RG I.2⟩)
 | add hk hM E T hE h ih=>
  rename_i g k M j left
  refine⟨fun tt j' left' e=>?_,fun e=>?_⟩
  ·rw[hk]at e;injection e with e
   obtain⟨rfl,rfl,rfl⟩:=Np e
   refine Lib.ends hk T (fun p' d' g' hE' hp c gs w t sl I=>?_) (fun g' hE'=>?_) _ _ rfl (by simp)
   ·have:=hE _ _ hE'
    cases this
    obtain⟨x,tl,esc,gm,I,h1,hj,hm⟩:=I
    exact(ih _ _ hE').1 1 _ _ (bH _ _ _) c gs w t sl ⟨x,tl,esc,gm,I.say hk,h1,hj,hm⟩
   ·have:=hE _ _ hE';cases this
  ·rw[hk]at e;injection e with e;exact absurd e NH
 | spawn hs hs' hsc e hk hM hsub hmu hmn hA hc hM' WV hsep h ih=>
  rename_i g g' child k kc M M' j left A
  refine⟨fun tt j' left' ek=>?_,fun ek=>?_⟩
  ·rw[hk]at ek;injection ek with ek
   obtain⟨rfl,rfl,rfl⟩:=Np ek
   refine Ht.ends hs fun c gs w t sl I h0=>?_
   obtain⟨x,tl,esc,gm,I,_,hj,_⟩:=I
   obtain⟨T⟩:=hc I.mm
   have hrun:=Conc.runT_crowd_spawn (P:=P) (w:=w) (sl:=sl) h0 (e w)
   have hops:((MemOp.ofEvents 0 g.frame.fn g.frame.place #[]).push {g:=0,fn:=g.frame.fn,pos:=g.frame.place,act:=.go gs.size}).push {g:=gs.size,fn:=child.frame.fn,pos:=g.frame.place,act:=.start}= #[go1 gs.size g.frame.fn g.frame.place,go2 gs.size child.frame.fn g.frame.place]:=by
    rw[ofEvents_eq];simp[go1,go2]
   rw[hops]at hrun
   subst hj
   have I':=I.spawn (g':=g') (fn:=g.frame.fn) (pos:=g.frame.place) (fn':=child.frame.fn) (pos':=g.frame.place) hk (hsub I.mm) hmu (hmn I.mm) (hA I.mm) T hM'.1 hsep
   refine .on hrun (ih.1 0 _ _ (bH _ _ _) (c.1,c.2++[⟨c.2.length,.run T⟩]) _ _ _ _ ⟨_,tl,_,g',I',?_,by simp,.inl rfl⟩)
   have hlt:0<gs.size:=(Array.getElem?_eq_some_iff.1 h0).1
   rw[Array.getElem?_push,if_neg (by simp;omega),Array.getElem?_setIfInBounds,if_pos rfl,if_pos hlt]
  ·rw[hk]at ek;injection ek with ek;exact absurd ek NH
 | wait hk hM E T hE h ih=>
  rename_i g k M j left
  refine⟨fun tt j' left' e=>?_,fun e=>?_⟩
  ·rw[hk]at e;injection e with e
   obtain⟨rfl,rfl,rfl⟩:=Np e
   refine Lib.ends hk T (fun p' d' g' hE' hp=>?_) (fun g' hE' l c As W qs gs w t sl I=>?_) _ _ rfl (by simp)
   ·have:=hE _ _ hE'
    cases this
    exact absurd rfl hp
   ·exact(ih _ _ l c As hE' W.len W.R W.J W.nodup W.new).2 (bH _ _ _) qs gs w t sl I
  ·rw[hk]at e;injection e with e;exact absurd e NH
end
end Go.aS

/- The outer tree: goroutine 0's steps, and groups. On every tape the run ends, and well. Conditions: none; over any program. -/
namespace Go.aS
open Go.Conc (crowd parked rcase scase QuitsIn QuitsD Before Knows knows_own touchAt touchAt_of touchAt_old getElem?_append_old getElem?_append_cases lt_size_of_getElem? touch_of hb_po hb_app ofEvents_eq woken Deaf deaf_old g?_old act?_old heard_old lt_of_act? Deaf_own Deaf_other counts_old deaf_inside)
open Go.ConcM (OsLater)
open Go.ConcN (RelBy)
def hopen(k:Hp)(γ:GP)(N:Nat):Hp:=hset ⟨fun b=>if γ.mu.isSome=true∧(b=γ.Mu∨b=γ.C)then none else k b,k.z⟩ γ.Wg (sK 0 0 N)
def Jg(γ:GP)(M:Nat→Prop):Nat→Prop:=fun b=>M b∧(γ.mu≠none→b≠γ.Mu∧b≠γ.C)
structure Opens(γ:GP)(N:Nat)(c:Obj)(k:Hp)(M:Nat→Prop):Prop where
 wg:k γ.Wg=some (zo γ.tW ⟨0,0,0⟩)
 mwg:M γ.Wg
 mu:∀q,γ.mu=some q→k q.1=some (BQ q.2 ⟨0,0,0,0,0⟩)∧M q.1
 C:γ.mu≠none→k γ.C=some c∧M γ.C∧γ.J [] c
 geo:γ.Wg≠γ.Mu∨γ.mu=none
 pF:γ.mu≠none→γ.C≠γ.Wg∧γ.C≠γ.Mu
 jc:∀l c,γ.J l c→c.isChan=false
 le:N≤63

theorem jl{k:Hp}{γ:GP}{N:Nat}{b:Nat}{o:Obj}(h:hopen k γ N b=some o):(b=γ.Wg∧o=sK 0 0 N)∨(b≠γ.Wg∧k b=some o∧(γ.mu≠none→b≠γ.Mu∧b≠γ.C)):=by
 rcases bV h with h | ⟨h1,h2⟩
 ·exact .inl h
 ·refine .inr ⟨h1,?_⟩
  by_cases hc:γ.mu.isSome=true∧(b=γ.Mu∨b=γ.C)
  ·rw[show(Hp.f _ b)=if γ.mu.isSome=true∧(b=γ.Mu∨b=γ.C)then none else k b from rfl,if_pos hc]at h2;cases h2
  ·rw[show(Hp.f _ b)=if γ.mu.isSome=true∧(b=γ.Mu∨b=γ.C)then none else k b from rfl,if_neg hc]at h2
   exact⟨h2,fun hm=>⟨fun e=>hc ⟨Option.isSome_iff_ne_none.2 hm,.inl e⟩,fun e=>hc ⟨Option.isSome_iff_ne_none.2 hm,.inr e⟩⟩⟩
theorem zH{k:Hp}{γ:GP}{N:Nat}{b:Nat}(h:b≠γ.Wg)(h':γ.mu≠none→b≠γ.Mu∧b≠γ.C):hopen k γ N b=k b:=by
 unfold hopen
 rw[bY _ _ h]
 show(if γ.mu.isSome=true∧(b=γ.Mu∨b=γ.C)then none else k b)=k b
 rw[if_neg]
 rintro⟨h1,h2⟩
 have:=h' (Option.isSome_iff_ne_none.1 h1)
 rcases h2 with h2 | h2
 ·exact this.1 h2
 ·exact this.2 h2

section
variable{P:Program}{γ:GP}{D:Nat→Prop}{Q:Machine→Outcome→World→Trace→Prop}{gs:Array Goroutine}{w w':World}{t u:Trace}{k:Hp}{M:Nat→Prop}{qs:List (Nat×Nat)}
theorem sO.open[Base]{N:Nat}{c:Obj}(I:sO P (fun _=>False) gs w t k M qs)(O:Opens γ N c k M):
  dZ P γ gs w t (hopen k γ N) (Jg γ M) 0 qs N (.add 0) ⟨⟨0,0,0,0,0⟩,⟨0,0,0⟩,en (cR []) 0 N⟩ [] (.free [] c) []:=by
 have K:=I.Y.DZ 0 k M nJ
 have hmu:γ.mu≠none→∃tM,k γ.Mu=some (BQ tM ⟨0,0,0,0,0⟩)∧M γ.Mu:=fun h=>by
  obtain⟨q,hq⟩:=Option.ne_none_iff_exists'.1 h
  rw[Grp.I5 hq]
  exact⟨_,O.mu q hq⟩
 have hWw:w.heap[γ.Wg]? =some (zo γ.tW ⟨0,0,0⟩):=K.uG.get O.wg rfl
 have hdv:uY (P:=P) (γ:=γ) 0 qs []=TS qs:=by
  funext g
  unfold uY TS
  by_cases h0:g=0
  ·rw[if_pos h0,if_pos h0]
  ·rw[if_neg h0,if_neg h0]
   by_cases h1:g≤qs.length
   ·rw[if_pos h1]
   ·rw[if_neg h1,List.getElem?_eq_none (l:=qs) (by omega)];rfl
 have hpr:∀{g k' M'},AU (P:=P) (γ:=γ) (hopen k γ N) (Jg γ M) qs.length [] g=some (k',M')→g=0∧k'=hopen k γ N∧M'=Jg γ M:=fun{g k' M'} e=>by
  rcases qQ e with h | ⟨i,m,_,h,_⟩
  ·exact h
  ·simp at h
 have hsh:∀b,OE γ b→∃o,k b=some o∧M b∧o.isChan=false:=fun b hb=>by
  rcases hb with rfl | ⟨hm,rfl⟩
  ·exact⟨_,O.wg,O.mwg,rfl⟩
  ·obtain⟨tM,h1,h2⟩:=hmu hm
   exact⟨_,h1,h2,rfl⟩
 have hhd:∀b,mX (P:=P) γ [] [] b→γ.mu≠none∧b=γ.C:=fun b hb=>by
  rcases hb with⟨h1,h2,_⟩ | ⟨o,h⟩
  ·exact⟨h1,h2⟩
  ·simp at h
 refine⟨by simpa using I.size,?_,I.quit,fun i m hi=>by simp at hi,?_,⟨fun q hq=>K.uG.get (O.mu q hq).1 rfl,hWw⟩,fun g hg b hb=>?_,fun hm=>⟨fun l c' e=>?_,fun i e=>by cases e⟩,⟨rfl,by simp,fun i m A hi=>by simp at hi,fun i m A hi=>by simp at hi⟩,I.base,fun g k' M' b e hb=>?_,fun b hb=>?_,O.geo,O.pF,O.jc,fun hm=>?_⟩
 ·rw[hdv]
  refine⟨I.Y.tk,fun g k1 M1 e=>?_,fun g g' k1 M1 k2 M2 hne e1 e2=>?_,fun b g k1 M1 o hb e ho=>?_,fun b g k1 M1 o e ho hf=>?_,fun b g k1 M1 hb e=>?_,fun b hb=>?_⟩
  ·obtain⟨rfl,rfl,rfl⟩:=hpr e
   refine⟨fun b o ho=>?_,fun b hb=>?_,fun b hb hc=>?_,fun b hb hc=>?_⟩
   ·rcases jl ho with⟨rfl,rfl⟩ | ⟨_,h2,_⟩
    ·exact⟨_,hWw,.inr ⟨rfl,.inr (vg _ _ _)⟩⟩
    ·exact K.uG b o h2
   ·by_cases hbW:b=γ.Wg
    ·subst hbW;unfold hopen;rw[bH];rfl
    ·rw[zH hbW hb.2];exact K.dom b hb.1
   ·by_cases hbW:b=γ.Wg
    ·subst hbW;unfold hopen at hc;rw[bH]at hc;cases hc
    ·rw[zH hbW hb.2]at hc;exact K.own b hb.1 hc
   ·obtain⟨o,ho⟩:=Option.isSome_iff_exists.1 hb
    rw[ho]at hc
    rcases jl ho with⟨rfl,rfl⟩ | ⟨_,h2,_⟩
    ·cases hc
    ·exact K.rd b (by rw[h2];rfl) (by rw[h2];exact hc)
  ·obtain⟨rfl,_,_⟩:=hpr e1
   obtain⟨rfl,_,_⟩:=hpr e2
   exact absurd rfl hne
  ·obtain⟨rfl,rfl,rfl⟩:=hpr e
   rcases jl ho with⟨rfl,rfl⟩ | ⟨h1,h2,h3⟩
   ·exact vg _ _ _
   ·rcases hb with hb | ⟨hm,hb⟩
    ·exact absurd hb h1
    ·exact absurd hb (h3 hm).1
  ·obtain⟨rfl,rfl,rfl⟩:=hpr e
   rcases jl ho with⟨rfl,rfl⟩ | ⟨h1,h2,h3⟩
   ·exact .inl rfl
   ·exact(I.Y.fk b 0 k M o nJ h2 hf).elim
  ·obtain⟨rfl,rfl,rfl⟩:=hpr e
   obtain⟨hm,rfl⟩:=hhd b hb
   cases e':hopen k γ N γ.C with
   | none=>rfl
   | some o=>
    rcases jl e' with⟨h,_⟩ | ⟨_,_,h⟩
    ·exact absurd h (O.pF hm).1
    ·exact absurd rfl (h hm).2
  ·rcases hb with hb | hb
   ·obtain⟨o,h1,_⟩:=hsh b hb
    exact K.uG.lt h1
   ·obtain⟨hm,rfl⟩:=hhd b hb
    exact K.uG.lt (O.C hm).1
 ·have z:∀r,cR [] r=0:=fun r=>rfl
  have zw:∀r,cW [] r=0:=fun r=>rfl
  refine⟨jD.start fun r _ _=>z r,?_,rfl,fun i a hi=>by simp at hi,by simpa using O.le,fun s e=>by cases e;omega,fun i a hi=>by simp at hi⟩
  show(0=cW [] .live+cW [] .s1+0∧0=0∧0=0∧cW [] .s2+cW [] .s3+cW [] .s4=0)
  exact⟨rfl,rfl,rfl,rfl⟩
 ·have hg0:g=0:=by
   rcases hg with h | ⟨h1,h2⟩
   ·exact h
   ·simp at h2;omega
  subst hg0
  obtain⟨o,h1,h2,h3⟩:=hsh b hb
  exact(K.own b h2 (by rw[h1];exact h3)).Ri
 ·cases e
  obtain⟨h1,h2,h3⟩:=O.C hm
  have hcc:=O.jc _ _ h3
  refine⟨fun i m hi=>by simp at hi,K.uG.get h1 hcc,h3,List.Perm.refl _,fun i a ha hl=>.inl fun g hg=>?_⟩
  have hg0:g=0:=by
   rcases hg with h | ⟨h1,h2⟩
   ·exact h
   ·simp at h2;omega
  subst hg0
  exact K.own _ h2 (by rw[h1];exact hcc) i a ha hl
 ·obtain⟨rfl,rfl,rfl⟩:=hpr e
  exact I.low b hb.1
 ·rcases hb with hb | hb
  ·obtain⟨o,_,h2,_⟩:=hsh b hb
   exact I.low b h2
  ·obtain⟨hm,rfl⟩:=hhd b hb
   exact I.low _ (O.C hm).2.1
 ·cases e':hopen k γ N γ.Mu with
  | none=>rfl
  | some o=>
   rcases jl e' with⟨h,_⟩ | ⟨_,_,h⟩
   ·exact absurd h (O.geo.resolve_right hm).symm
   ·exact absurd rfl (h hm).1

inductive Mo(P:Program)(Fin:Goroutine→Hp→(Nat→Prop)→Prop):Goroutine→Hp→(Nat→Prop)→Prop
 | fin {g:Goroutine} {k:Hp} {M:Nat→Prop} (h:Fin g k M):Mo P Fin g k M
 | step {g:Goroutine} {k:Hp} {M:Nat→Prop} (hs:g.status= .running)
   (ok:∀w,yF k w→Dom k M→∃g' w' es,stepG P true g w= .go g' w' es∧dX k M w w' es)
   (h:∀w g' w' es,yF k w→Dom k M→stepG P true g w= .go g' w' es→Mo P Fin g' (snap k w w') (grown M w w')):Mo P Fin g k M
 | grp {g:Goroutine} {k:Hp} {M:Nat→Prop} (γ:GP) (N:Nat) (c:Obj) (O:Opens γ N c k M) (R:Goroutine→Hp→(Nat→Prop)→Prop) (hG:wO P γ R g (hopen k γ N) (Jg γ M)) (hR:∀g k M,R g k M→Mo P Fin g k M):Mo P Fin g k M

theorem Mo.ends'[Base]{Fin:Goroutine→Hp→(Nat→Prop)→Prop}(aeG:∀g k M,Fin g k M→∀qs gs w t sl,zG P (fun _=>False) k M g qs gs w t→Ends P Q (crowd gs w sl) t){g:Goroutine}{k:Hp}{M:Nat→Prop}(T:Mo P Fin g k M):
  ∀qs gs w t sl,zG P (fun _=>False) k M g qs gs w t→Ends P Q (crowd gs w sl) t:=by
 induction T with
 | fin h=>exact aeG _ _ _ h
 | step hs ok h ih=>
  rename_i g k M
  refine zG.ends hs fun qs gs w t sl I=>?_
  have K:=I.1.Y.DZ 0 k M nJ
  obtain⟨g',w',es,hst,gu⟩:=ok w K.uG K.dom
  exact .on (Conc.runT_crowd_go I.2 hst) (ih w g' w' es K.uG K.dom hst qs _ _ _ _ ⟨I.1.step gu,RG I.2⟩)
 | grp γ N c O R hG hR ih=>
  intro qs gs w t sl I
  refine(wO.ends (fun g k M h=>ih g k M h) hG).1 0 0 N (bH _ _ _) (qs,[]) gs w t sl ⟨_,_,_,_,I.1.open O,I.2,rfl,.inl rfl⟩

def tZ(P:Program)(Post:Value→World→Prop)(g:Goroutine)(k:Hp)(M:Nat→Prop):Prop:=
 g.status= .running∧(∀c o,M c→k c=some o→opn o=false)∧∀w,yF k w→Dom k M→∃v w' es,stepG P true g w= .ended (.done v) w' es∧dX k M w w' es∧Post v w'
abbrev PK[Base](Post:Value→World→Prop):Value→World→Prop:=fun v w'=>Post v w'∧Kept Base.ref w'

theorem runT_crowd_ended{sl:Option (Nat×Nat)}{i:Nat}{g:Goroutine}{o:Outcome}{es:Array Event}(hi:gs[i]? =some g)(h:stepG P (i==0) g w= .ended o w' es):
  runT P (crowd gs w sl) i=(.ended o w',MemOp.ofEvents i g.frame.fn g.frame.place es):=by
 obtain⟨hlt,rfl⟩:=Array.getElem?_eq_some_iff.1 hi
 have hsw:=Conc.swapAt_of_lt hlt {(default:Goroutine)with status:=.finished}
 show runT P {world:=w,gs:=gs,rest:={timers:= #[],alone:=none,slice:=sl}} i=_
 unfold runT
 simp only[hsw,h,GStep.es]

theorem sO.over[Base]{Post:Value→World→Prop}{es:Array Event}{fn:FuncId}{pos:String}{v:Value}{sl:Option (Nat×Nat)}(I:sO P D gs w t k M qs)(gu:dX k M w w' es)(hp:Post v w')(d:Nat):
  Conc.Good P (PK Post) (crowd gs (w.at d) sl) (.done v) w' (t++MemOp.ofEvents 0 fn pos es):=by
 have Y:=I.Y.step (fn:=fn) (pos:=pos) nJ (by omega) gu
 have hsz:=I.size
 have left:∀(i:Nat) (g:Goroutine),gs[i+1]? =some g→∃q,qs[i]? =some q∧QuitsD P q.1 q.2 g∧∀n,t.counts n→t.g? n=some (i+1)→Knows t 0 n:=fun i g hg=>by
  have hl:i<qs.length:=by have:=(Array.getElem?_eq_some_iff.1 hg).1;omega
  obtain⟨g',h1,h2,h3⟩:=I.quit i _ (List.getElem?_eq_getElem hl)
  rw[hg]at h1;cases h1
  exact⟨_,List.getElem?_eq_getElem hl,h2,h3⟩
 refine⟨v,rfl,⟨hp,I.base.guar gu I.low⟩,Y.tk.clean,fun i g hg hne hcount=>?_,⟨fun g hg=>?_,rfl⟩,fun i g hg hne=>?_⟩
 ·obtain⟨op,hop,aeH⟩:=Option.map_eq_some_iff.1 hg
  rcases getElem?_append_cases hop with⟨hi,h1⟩ | ⟨_,h1⟩
  ·have hlt:op.g<qs.length+1:=I.Y.tk.who op (Conc.mem_of_getElem? h1)
   obtain⟨j,rfl⟩:∃j,g=j+1:=⟨g-1,by omega⟩
   have hj:j+1<gs.size:=by omega
   obtain⟨q,_,_,hkn⟩:=left j gs[j+1] (Array.getElem?_eq_getElem hj)
   have hgt:t.g? i=some (j+1):=by rw[g?_old hi]at hg;exact hg
   obtain⟨r,z,h2,h3,h4⟩:=hkn i ((counts_old hi).1 hcount) hgt
   rcases h4 with rfl | h4
   ·simp[Trace.g?,h2]at hgt
    rw[h3]at hgt;omega
   ·exact⟨r,by rw[g?_old (lt_size_of_getElem? h2)];simp[Trace.g?,h2,h3],hb_app _ h4⟩
  ·obtain⟨e,_,rfl⟩:=mem_ofEvents h1
   exact absurd aeH.symm hne
 ·obtain⟨m,hm⟩:=List.getElem?_of_mem hg
  rw[List.getElem?_drop]at hm
  have:gs[m+1]? =some g:=by rw[Nat.add_comm];simpa[crowd]using hm
  obtain⟨q,_,h1,_⟩:=left m g this
  exact⟨q.1,h1.leaves⟩
 ·obtain⟨j,rfl⟩:∃j,i=j+1:=⟨i-1,by omega⟩
  obtain⟨q,h0,h1,_⟩:=left j g hg
  refine⟨q.1,?_⟩
  have:=Y.tk.deaf (j+1)
  rw[Xm h0]at this
  rw[show(t++MemOp.ofEvents 0 fn pos es).deaf (j+1) (t++MemOp.ofEvents 0 fn pos es).size=q.2 from this]
  exact h1.hears _

theorem Mo.ends[Base]{Fin:Goroutine→Hp→(Nat→Prop)→Prop}{Post:Value→World→Prop}(hfin:∀g k M,Fin g k M→tZ P Post g k M){g:Goroutine}{k:Hp}{M:Nat→Prop}(H:Mo P Fin g k M):
  ∀qs gs w t sl,zG P (fun _=>False) k M g qs gs w t→Ends P (Conc.Good P (PK Post)) (crowd gs w sl) t:=by
 refine H.ends' fun g k M h=>?_
 obtain⟨hs,_,he⟩:=hfin g k M h
 refine zG.ends hs fun qs gs w t sl I=>?_
 have K:=I.1.Y.DZ 0 k M nJ
 obtain⟨v,w',es,e,gu,hp⟩:=he w K.uG K.dom
 exact .over (runT_crowd_ended I.2 e) fun sl' d=>I.1.over gu hp d
end
end Go.aS

/- Communication, as the judgement on code sees it. Conditions: none; over any program. -/
namespace Go.aS
open Go.Conc (rcase scase QuitsIn)
variable{P:Program}
/-! ### Less may be written -/
theorem Less.dom{k:Hp}{M' M:Nat→Prop}(h:Less k M' M)(d:Dom k M):Dom k M':=fun b hb=>d b (h.1 b hb)
theorem Less.trans{k:Hp}{ML jr Zc:Nat→Prop}(h:Less k ML jr)(h':Less k jr Zc):Less k ML Zc:=by
 refine⟨fun b hb=>h'.1 b (h.1 b hb),fun b o h3 h1 hk=>?_⟩
 rcases Classical.em (jr b)with h2 | h2
 ·exact h.2 b o h2 h1 hk
 ·exact h'.2 b o h3 h2 hk
theorem Less.guar{k:Hp}{M' M:Nat→Prop}{w w':World}{es:Array Event}(h:Less k M' M)(g:dX k M' w w' es):dX k M w w' es:=by
 refine⟨g.size,fun b hb hm=>g.keep b hb fun h'=>hm (h.1 b h'),g.chans,g.news,g.stay,g.Dw,g.os,g.output,g.tape,fun e he=>?_⟩
 have:=g.evs e he
 unfold Bd at this⊢
 split at this
 ·exact⟨this.1,this.2.imp (fun x=>⟨x.1,x.2.1,fun y=>h.1 _ (x.2.2 y)⟩) id⟩
 ·exact⟨this.1,this.2.imp (fun x=>⟨x.1,x.2.1,fun y=>h.1 _ (x.2.2 y)⟩) id⟩
 ·exact this
 ·exact this.elim
theorem Less.grown{k:Hp}{M' M:Nat→Prop}{w w':World}{es:Array Event}(h:Less k M' M)(ha:yF k w)(hd:Dom k M)(g:dX k M' w w' es):Less (snap k w w') (aS.grown M' w w') (aS.grown M w w'):=by
 refine⟨fun b hb=>hb.imp (h.1 b) id,fun b o hb hn hk=>?_⟩
 rcases hb with hb | hb
 ·have hn':¬M' b:=fun x=>hn (.inl x)
  cases hc:isC (k b)with
  | true=>
   have:snap k w w' b=k b:=by simp[snap,hc]
   exact h.2 b o hb hn' (by rw[←this];exact hk)
  | false=>
   obtain⟨x,hx⟩:=Option.isSome_iff_exists.1 (hd b hb)
   have hxc:x.isChan=false:=by rw[hx]at hc;exact hc
   have hw:=ha.get hx hxc
   have e:w'.heap[b]? =some x:=by rw[g.keep b (m_ hw) hn'];exact hw
   have:snap k w w' b=some x:=by simp[snap,hc,hx,e]
   rw[this]at hk
   cases hk
   exact Fh hxc
 ·exact absurd (.inr hb) hn

theorem CJ.x9{main:Bool}{Stop:Goroutine→Hp→(Nat→Prop)→Prop}(hS:BJ Stop):BJ (CJ P main Stop):=by
 intro g k M M' hl H
 induction H generalizing M with
 | stop h=>exact .stop (hS _ _ _ _ hl h)
 | step hs ok h ih=>
  refine .step hs (fun w ha hd=>?_) fun w g' w' es ha hd e=>?_
  ·obtain⟨g',w',es,e,gu⟩:=ok w ha (hl.dom hd)
   exact⟨g',w',es,e,hl.guar gu⟩
  ·obtain⟨g₂,w₂,es₂,e₂,gu⟩:=ok w ha (hl.dom hd)
   rw[e]at e₂;cases e₂
   exact ih w _ _ _ ha (hl.dom hd) e _ (hl.grown ha hd gu)

theorem Less.hset{k:Hp}{M' M:Nat→Prop}{c:Nat}{o o':Obj}(h:Less k M' M)(hk:k c=some o)(ho:opn o=true):Less (aS.hset k c o') M' M:=by
 refine⟨h.1,fun b x hb hn hx=>?_⟩
 by_cases hbc:b=c
 ·subst hbc
  rw[h.2 b o hb hn hk]at ho;cases ho
 ·rw[bY _ _ hbc]at hx
  exact h.2 b x hb hn hx

theorem Less.hdel{k:Hp}{M' M:Nat→Prop}{c:Nat}(h:Less k M' M):Less (aS.hdel k c) (fun b=>M' b∧b≠c) (fun b=>M b∧b≠c):=
 ⟨fun b hb=>⟨h.1 b hb.1,hb.2⟩,fun b o hb hn hk=>h.2 b o hb.1 (fun h'=>hn ⟨h',hb.2⟩) (iM hk).2⟩
theorem Less.hset'{k:Hp}{M' M:Nat→Prop}{c:Nat}{o':Obj}(h:Less k M' M)(hc:M' c∨opn o'=false):Less (aS.hset k c o') M' M:=by
 refine⟨h.1,fun b x hb hn hx=>?_⟩
 rcases bV hx with⟨rfl,rfl⟩ | ⟨_,h2⟩
 ·exact hc.resolve_left hn
 ·exact h.2 b x hb hn h2
theorem Less.or{k:Hp}{M' M:Nat→Prop}(N:Nat→Prop)(h:Less k M' M):Less k (fun b=>M' b∨N b) (fun b=>M b∨N b):=
 ⟨fun b hb=>hb.imp (h.1 b) id,fun b o hb hn hk=>hb.elim (fun hb=>h.2 b o hb (fun h'=>hn (.inl h')) hk) fun hb=>absurd (.inr hb) hn⟩

theorem wO.mono{γ:GP}{Ex Ex':Goroutine→Hp→(Nat→Prop)→Prop}{g:Goroutine}{k:Hp}{M:Nat→Prop}(H:wO P γ Ex g k M)(h:∀g k M,Ex g k M→Ex' g k M):wO P γ Ex' g k M:=by
 induction H with
 | exit hk he=>exact .exit hk (h _ _ _ he)
 | step hs ok _ ih=>exact .step hs ok ih
 | add hk hM E T hE _ ih=>exact .add hk hM E T hE ih
 | spawn hs hs' hsc e hk hM hsub hmu hmn hA hc hM' WV hsep _ ih=>exact .spawn hs hs' hsc e hk hM hsub hmu hmn hA hc hM' WV hsep ih
 | wait hk hM E T hE _ ih=>exact .wait hk hM E T hE ih

theorem Wk.x9{γ:GP}{j:Nat}:BJ (Wk P γ j):=by
 rintro g k M M' hl ⟨T⟩
 induction T generalizing M with
 | step hs ok h ih=>
  refine⟨.step hs (fun w ha hd=>?_) fun w g' w' es ha hd e=>Classical.choice ?_⟩
  ·obtain⟨g',w',es,e,gu⟩:=ok w ha (hl.dom hd)
   exact⟨g',w',es,e,hl.guar gu⟩
  ·obtain⟨g₂,w₂,es₂,e₂,gu⟩:=ok w ha (hl.dom hd)
   rw[e]at e₂;cases e₂
   exact ih w _ _ _ ha (hl.dom hd) e _ (hl.grown ha hd gu)
 | lock hm hk hM E T hE h ih=>
  refine⟨.lock hm hk (hl.1 _ hM) E T hE fun s g' l c he hJ V6 Ho=>Classical.choice (ih s g' l c he hJ V6 (fun h'=>Ho (hl.1 _ h')) _ ?_)⟩
  exact((hl.hset' (.inl hM)).or (fun b=>b=γ.C)).hset' (.inl (.inr rfl))
 | unlock hm hk hM hC Ho ht hJ E T hE h ih=>
  refine⟨.unlock hm hk (hl.1 _ hM) hC (hl.1 _ Ho) ht hJ E T hE fun s g' he=>Classical.choice (ih s g' he _ ?_)⟩
  exact(hl.hset' (.inl hM)).hdel
 | done hk A hA hn hR T=>exact⟨.done hk A (fun b o hb=>⟨(hA b o hb).1,hl.1 _ (hA b o hb).2.1,(hA b o hb).2.2⟩) hn hR T⟩

theorem wO.x9{γ:GP}{Ex:Goroutine→Hp→(Nat→Prop)→Prop}(hE:BJ Ex):BJ (wO P γ Ex):=by
 intro g k M M' hl H
 induction H generalizing M with
 | exit hk h=>exact .exit hk (hE _ _ _ _ hl.hdel h)
 | step hs ok h ih=>
  refine .step hs (fun w ha hd=>?_) fun w g' w' es ha hd e=>?_
  ·obtain⟨g',w',es,e,gu⟩:=ok w ha (hl.dom hd)
   exact⟨g',w',es,e,hl.guar gu⟩
  ·obtain⟨g₂,w₂,es₂,e₂,gu⟩:=ok w ha (hl.dom hd)
   rw[e]at e₂;cases e₂
   exact ih w _ _ _ ha (hl.dom hd) e _ (hl.grown ha hd gu)
 | add hk hM E T hE' h ih=>exact .add hk (hl.1 _ hM) E T hE' fun s g' he=>ih s g' he _ (hl.hset' (.inl hM))
 | spawn hs hs' hsc e hk hM hsub hmu hmn hA hc hM' WV hsep h ih=>
  exact .spawn hs hs' hsc e hk (hl.1 _ hM) hsub hmu hmn (fun hkm b o hb=>⟨(hA hkm b o hb).1,(hA hkm b o hb).2.1,hl.1 _ (hA hkm b o hb).2.2.1,(hA hkm b o hb).2.2.2⟩) hc (hM'.trans hl) WV hsep h
 | wait hk hM E T hE' h ih=>
  rename_i g k ML j left
  refine .wait hk (hl.1 _ hM) E T hE' fun s g' l c As he hlen hR hJ hnd hnew=>ih s g' l c As he hlen hR hJ hnd (fun b o hb=>⟨(hnew b o hb).1,fun h'=>(hnew b o hb).2.1 (hl.1 _ h'),(hnew b o hb).2.2⟩) _ ?_
  refine⟨fun b hb=>hb.imp (hl.1 b) id,fun b o hb hn hk'=>?_⟩
  rcases hb with hb | hb
  ·have hn':¬ML b:=fun h'=>hn (.inl h')
   rcases bV hk' with⟨rfl,rfl⟩ | ⟨_,h2⟩
   ·exact absurd hM hn'
   ·simp only[hadd]at h2
    cases e:(back γ c As).lookup b with
    | none=>rw[e]at h2;exact hl.2 b o hb hn' h2
    | some o'=>exact absurd (.inr ⟨o',jV e⟩) hn
  ·exact absurd (.inr hb) hn

theorem Mo.x9{Fin:Goroutine→Hp→(Nat→Prop)→Prop}(hF:BJ Fin):BJ (Mo P Fin):=by
 intro g k M M' hl H
 induction H generalizing M with
 | fin h=>exact .fin (hF _ _ _ _ hl h)
 | step hs ok h ih=>
  refine .step hs (fun w ha hd=>?_) fun w g' w' es ha hd e=>?_
  ·obtain⟨g',w',es,e,gu⟩:=ok w ha (hl.dom hd)
   exact⟨g',w',es,e,hl.guar gu⟩
  ·obtain⟨g₂,w₂,es₂,e₂,gu⟩:=ok w ha (hl.dom hd)
   rw[e]at e₂;cases e₂
   exact ih w _ _ _ ha (hl.dom hd) e _ (hl.grown ha hd gu)
 | grp γ N c O R hG hR ih=>
  rename_i g k ML
  refine .grp γ N c ⟨O.wg,hl.1 _ O.mwg,fun q hq=>⟨(O.mu q hq).1,hl.1 _ (O.mu q hq).2⟩,fun h=>⟨(O.C h).1,hl.1 _ (O.C h).2.1,(O.C h).2.2⟩,O.geo,O.pF,O.jc,O.le⟩ (fun g k M=>∃M',Less k M' M∧R g k M') ?_ ?_
  ·refine wO.x9 (fun g k M M' hl ⟨jr,h1,h2⟩=>⟨jr,h1.trans hl,h2⟩) _ _ _ (Jg γ ML) ?_ (hG.mono fun g k M h=>⟨M,⟨fun b hb=>hb,fun b o hb hn=>absurd hb hn⟩,h⟩)
   refine⟨fun b hb=>⟨hl.1 b hb.1,hb.2⟩,fun b o hb hn hk=>?_⟩
   rcases jl hk with⟨rfl,rfl⟩ | ⟨_,h2,_⟩
   ·exact absurd ⟨O.mwg,hb.2⟩ hn
   ·exact hl.2 b o hb.1 (fun h'=>hn ⟨h',hb.2⟩) h2
  ·rintro g k M ⟨M',h1,h2⟩
   exact ih g k M' h2 M h1

/-! ### Nothing is lost by going on -/
theorem Mo.rQ{Fin:Goroutine→Hp→(Nat→Prop)→Prop}{g:Goroutine}{k:Hp}{M:Nat→Prop}(H:CJ P true (Mo P Fin) g k M):Mo P Fin g k M:=by
 induction H with
 | stop h=>exact h
 | step hs ok h ih=>exact .step hs ok ih
theorem wO.rQ{γ:GP}{Ex:Goroutine→Hp→(Nat→Prop)→Prop}{g:Goroutine}{k:Hp}{M:Nat→Prop}(H:CJ P true (wO P γ Ex) g k M):wO P γ Ex g k M:=by
 induction H with
 | stop h=>exact h
 | step hs ok h ih=>exact .step hs ok ih
theorem Wk.rQ{γ:GP}{j:Nat}{g:Goroutine}{k:Hp}{M:Nat→Prop}(H:CJ P false (Wk P γ j) g k M):Wk P γ j g k M:=by
 induction H with
 | stop h=>exact h
 | step hs ok h ih=>exact⟨.step hs ok fun w g' w' es ha hd e=>Classical.choice (ih w g' w' es ha hd e)⟩

def GI(P:Program)(Fin:Goroutine→Hp→(Nat→Prop)→Prop):Side:=⟨true,fun S=>S=Mo P Fin⟩
/-! ### A block that nobody will write again -/
end Go.aS

/- What is said of a block is turned; a go statement. Conditions: none; over any program. -/
namespace Go.aS
open Go.Conc (rcase scase QuitsIn)
section
variable{P:Program}
theorem Sat.ghost{h k:Hp}{F:ah}{U:Obj→ah}{M:Nat→Prop}{c:Nat}{o o':Obj}(S:Sat h F k M)(hl:At c o F U)(ho':o.isChan=true∧o'.isChan=true):k c=some o∧M c∧Sat h (U o') (hset k c o') M∧Fr M F M (U o'):=by
 obtain⟨F1,F2,rfl,e2⟩:=hl.split
 have hc:=S.own c o (by simp)
 have hnd:=S.nodup
 rw[e2]
 have hne:∀b x,(b,x)∈F1∨(b,x)∈F2→b≠c:=by
  rintro b x hx rfl
  simp only[List.map_append,List.map_cons,List.nodup_append,List.nodup_cons]at hnd
  rcases hx with hx | hx
  ·exact hnd.2.2 b (List.mem_map.2 ⟨_,hx,rfl⟩) b (by simp) rfl
  ·exact hnd.2.1.1 (List.mem_map.2 ⟨_,hx,rfl⟩)
 refine⟨hc.1,hc.2.1,⟨fun b x hb=>?_,fun b x hb=>?_,by simpa using hnd,fun b x hm hx hox=>?_,fun b hb=>?_⟩,Fr.turn _ _ _ _ _ fun _ h=>h⟩
 ·have e:b≠c:=by rintro rfl;rw[hc.2.2]at hb;cases hb
  rw[bY _ _ e];exact S.sub b x hb
 ·have old:(b,x)∈F1∨(b,x)∈F2→hset k c o' b=some x∧M b∧h b=none:=fun hx=>by
   have:=S.own b x (by rcases hx with hx | hx <;>simp[hx])
   rw[bY _ _ (hne b x hx)];exact this
  rcases List.mem_append.1 hb with hb | hb
  ·exact old (.inl hb)
  ·rcases List.mem_cons.1 hb with e | hb
   ·cases e;exact⟨bH _ _ _,hc.2⟩
   ·exact old (.inr hb)
 ·by_cases e:b=c
  ·subst e;rw[bH]at hx;cases hx;exact .inl (by simp)
  ·rw[bY _ _ e]at hx
   rcases S.all b x hm hx hox with h1 | h1
   ·left
    rcases List.mem_append.1 h1 with h1 | h1
    ·exact List.mem_append_left _ h1
    ·rcases List.mem_cons.1 h1 with e' | h1
     ·cases e';exact absurd rfl e
     ·exact List.mem_append_right _ (List.mem_cons_of_mem _ h1)
   ·exact .inr h1
 ·have:=S.CO b hb
  have e:b≠c:=by rintro rfl;exact this.1 hc.2.1
  rw[bY _ _ e];exact this

theorem Jh(fn:FuncId):seen P fn #[]= #[]:=rfl

end
section rules
variable{x:Cx}{Q:Post}{ρ:Env}{ds:List Deferred}{F:ah}{ops:Array Oper}{i:Nat}{rest:List Nat}{o:Oper}
end rules
end Go.aS

/- A go statement's step; where a goroutine that was started begins and ends. Conditions: none; over any program. -/
namespace Go.aS
open Go.Conc (rcase scase QuitsIn)
section
variable{P:Program}{ds:List Deferred}{ops:Array Oper}{i:Nat}{rest:List Nat}{o:Oper}
noncomputable def zI(h:Hp):Hp:=by
 classical exact⟨fun b=>if h.z b∧isC (h b)=false then h b else none,fun _=>False⟩
theorem Ji{h:Hp}{b:Nat}{o:Obj}(hz:h.z b)(hb:h b=some o)(ho:o.isChan=false):zI h b=some o:=by simp[zI,hz,hb,isC,ho]
end
end Go.aS

/- New channels, deferred calls, and the outermost function: from a law's body to the run of the machine. Conditions: none; over any program. -/
namespace Go.aS
open Go.Conc (solo solo_eq_crowd)
section rules
variable{x:Cx}{Q:Post}{ρ:Env}{ds:List Deferred}{F:ah}{ops:Array Oper}{i:Nat}{rest:List Nat}{o:Oper}{R:Value→ah→Prop}
theorem Py{P:Program}{fr:Frame}{cs:List Frame}{s:Sem Next}{w:World}{d:Deferred}(r:s.runT P w #[]=(.ok (.defer d) w, #[]))(hk:(fr.kind==CallKind.early)=false):
  stepG.apply P true fr cs none s w= .go (G ({fr with defers:=d::fr.defers}.finish undef) cs) w #[]:=by
 unfold stepG.apply
 simp only[r,hk,if_true,Bool.false_eq_true,if_false]
 rw[Jh]
 rfl

theorem Pz{b:Frame}{t:Array Value}{k:List Item}{cs:List Frame}{w:World}{c:Call}{d:Deferred}(ho:ops[i]? =some o)(hop:o.op= .defer c)(hw:Region.wanted o (yielded ops t)=true)(hr:b.roundOf=none)(hk:(b.kind==CallKind.early)=false)
  (hd:resolve (bW b t ds (.inRegion ops (i::rest)::k)).eval c o.type= .pure d):
  stepG x.P x.main.b (G (bW b t ds (.inRegion ops (i::rest)::k)) cs) w= .go (G ((bW b t (d::ds) (.inRegion ops (i::rest)::k)).finish undef) cs) w #[]:=by
 obtain⟨dst,op,type,pos,bK,guard⟩:=o
 simp only at hop hd
 subst hop
 have e:stepG x.P x.main.b (G (bW b t ds (.inRegion ops (i::rest)::k)) cs) w=stepG.apply x.P true (bW b t ds (.inRegion ops (i::rest)::k)) cs none (execOp (bW b t ds (.inRegion ops (i::rest)::k)).eval ⟨dst,.defer c,type,pos,bK,guard⟩) w:=by
  simp only[Conc.G,stepG,stepG.exec,stepG.oper,Frame.oper?,bW,ho,hw,hr,Option.map_some,Option.getD_some,if_true]
 rw[e]
 refine Py (fr:=bW b t ds (.inRegion ops (i::rest)::k)) ?_ hk
 simp only[execOp,hd,bind_eq,au,Sem.bind,Sem.runT]

theorem Ops.defer{c:Call}{d:Deferred}(hro:x.ro=none)(ho:ops[i]? =some o)(hop:o.op= .defer c)(hw:want ops ρ o)(hd:o.dst=none)
  (hr:∀e:Operand→Value,(∀y v,ev ρ y=some v→e y=v)→resolve e c o.type= .pure d) (H:Ops x ops rest Q ρ (d::ds) F):Ops x ops (i::rest) Q ρ ds F:=by
 intro b k cs Stop tmps hk M h1 h0 h2 h3 h4 h5 hc
 have hk':(b.kind==CallKind.early)=false:=by simpa using h2.1
 refine .idle rfl (fun w=>Pz ho hop (hw.wanted h3) (h0.trans hro) hk' (hr _ fun _ _ hx=>h3.ev hx)) ?_
 have hf:=eY (b:=b) (t:=tmps) (ds:=d::ds) (k:=k) (cs:=cs) (rest:=rest) ho undef
 rw[hf,hd]
 exact H b k cs Stop tmps hk M h1 h0 h2 h3 h4 h5 hc
end rules
section top
variable{P:Program}{Post:Value→World→Prop}
theorem tZ.x9:BJ (tZ P Post):=by
 intro g k M M' hl ⟨h1,h2,h3⟩
 refine⟨h1,fun c o hm hk=>?_,fun w ha hd=>?_⟩
 ·rcases Classical.em (M' c)with h | h
  ·exact h2 c o h hk
  ·exact hl.2 c o hm h hk
 ·obtain⟨v,w',es,e,gu,hp⟩:=h3 w ha (hl.dom hd)
  exact⟨v,w',es,e,hl.guar gu,hp⟩

theorem abD{b:Frame}{fn:Func}{t:Array Value}{todo:List Item}{w w':World}{v:Value}{es:Array Event}(hf:P.funcs[b.fn]? =some fn)(hi:P.inits.idxOf? b.fn=none)(r:(results fn t).runT P w #[]=(.ok v w',es))(hk:b.kind= .normal):
  stepG P true (G (iC b t [] todo) []) w= .ended (.done v) w' (seen P b.fn es):=by
 have e:stepG P true (G (iC b t [] todo) []) w=unwind P true (iC b t [] todo) [] none w:=rfl
 rw[e]
 unfold unwind
 have h1:(iC b t [] todo).defers=[]:=rfl
 have h2:(iC b t [] todo).mode= .returning:=rfl
 have h3:(iC b t [] todo).fn=b.fn:=rfl
 have h4:(iC b t [] todo).tmps=t:=rfl
 have h5:(iC b t [] todo).kind= .normal:=hk
 simp only[h1,h2,h3,h4,hf,r,doReturn,h5,hi,Bool.not_true,Bool.false_eq_true,if_false]
 rfl

theorem Mo.top{f:FuncId}{fn:Func}{body:Code}(hf:P.funcs[f]? =some fn)(hb:fn.body=some body)(hi:P.inits.idxOf? f=none){args:Array Value}(ha:args.size≤fn.ntmps)(ρ:Env)(hρ:G9 ρ args){h k:Hp}{M:Nat→Prop}(S:Sat h [] k M)(hno:∀b o,h b=some o→o.isChan=false)
  {R:Value→Prop} (hpost:∀v w,R v→(∀b o,h b=some o→w.heap[b]? =some o)→Post v w)
  (H:W ⟨P,GI P (tZ P Post),f,fn.ntmps,none,h⟩ body (fun e ρ ds F=>ds=[]∧Shut F∧leave P (GI P (tZ P Post)) fn h (fun v _=>R v) e ρ [] F) ρ [] []):Mo P (tZ P Post) (G (Frame.enter P f args .normal) []) k M:=by
 refine Mo.rQ ?_
 have e:Frame.enter P f args .normal=bW {(default:Frame)with fn:=f,kind:=.normal} (args++Array.replicate (fn.ntmps-args.size) undef) [] [.code body]:=by
  simp[Frame.enter,bW,hf,hb];rfl
 rw[e]
 refine H _ [] [] ⟨Mo P (tZ P Post),rfl,Mo.x9 tZ.x9⟩ _ k M rfl rfl (.normal rfl) hρ.ok (by simp;omega) S fun ex ρ' ds' F' aZ hk' M' q a1 a2 a3 a4=>?_
 obtain⟨rfl,hsh,hex,hu⟩:=q
 have hu':tr P h (results fn aZ) F' (fun v _=>R v):=hu aZ a1
 have go:∀todo,CJ P true (Mo P (tZ P Post)) (G (iC {(default:Frame)with fn:=f,kind:=.normal} aZ [] todo) []) hk' M':=fun todo=>by
  refine .stop (.fin ⟨rfl,fun c o hm hk=>?_,fun w hw hM=>?_⟩)
  ·cases ho:opn o with
   | false=>rfl
   | true=>
    rcases a3.all c o hm hk ho with h1 | h1
    ·rw[hsh _ h1]at ho;cases ho
    ·rw[Fh (hno c o h1)]at ho;cases ho
  ·obtain⟨v,Lp,w',es,r1,r2,r3,r4,r5⟩:=jR _ #[] hu' a3 hw hM
   rw[Array.empty_append]at r1
   refine⟨v,w',_,abD hf hi r1 rfl,r2.mem fun _=>mem_seen,hpost v w' r5 fun b o hb=>?_⟩
   exact(qZ hw r2).get (r3.sub b o hb) (hno b o hb)
 rcases hex with rfl | rfl
 ·exact fun k'=>.idle rfl (fun _=>Fj (main:=GI P (tZ P Post)) rfl) (go _)
 ·exact .idle rfl (fun _=>Fp (main:=GI P (tZ P Post)) rfl) (go _)

noncomputable def atStart(W:World):Hp:=⟨fun b=>match W.heap[b]? with | some o=>if o.isChan then none else some o | none=>none,fun b=>∃o,W.heap[b]? =some o∧o.isChan=false⟩
theorem ku{W:World}{b:Nat}{o:Obj}:atStart W b=some o↔W.heap[b]? =some o∧o.isChan=false:=by
 simp only[atStart]
 cases e:W.heap[b]? with
 | none=>simp
 | some o'=>
  cases hc:o'.isChan with
  | true=>
   simp only[hc,if_true]
   constructor
   ·intro h;cases h
   ·rintro⟨h,h'⟩;cases h;rw[hc]at h';cases h'
  | false=>
   simp only[hc,Bool.false_eq_true,if_false]
   constructor
   ·intro h;cases h;exact⟨rfl,hc⟩
   ·rintro⟨h,_⟩;exact h
theorem PD{W:World}:Sat (atStart W) [] (atStart W) fun _=>False:=
 ⟨(fun _ _ h=>h),(fun _ _ h=>by cases h),(by simp),(fun _ _ h=>h.elim),(fun b ⟨o,h1,h2⟩=>⟨fun h=>h,by rw[ku.2 ⟨h1,h2⟩];rfl⟩)⟩

theorem Mo.run{W:World}{g:Goroutine}(H:Mo P (tZ P Post) g (atStart W) fun _=>False):
  ∃M last o w' t',runNT P (M+1) (solo g W) #[]=(.ended o w',t')∧runN P M (solo g W)= .next last∧Go.step P last= .ended o w'∧Conc.Good P (fun v w'=>Post v w'∧Kept W w') last o w' t':=by
 letI:Base:=⟨W⟩
 have K:WW W #[] 0 (atStart W) (fun _=>False):=⟨fun b o hb=>⟨o,(ku.1 hb).1,.inl rfl⟩,fun b hb=>hb.elim,fun b hb=>hb.elim,fun b _ _ i a hi=>by rw[show Conc.touchAt #[] i=none by simp[Conc.touchAt,Trace.act?]]at hi;cases hi⟩
 have hf:∀b o,atStart W b=some o→kN o=true→False:=fun b o hb ho=>by
  have:=dU ho
  rw[(ku.1 hb).2]at this;cases this
 have Y:LY W #[] 1 (TS []) (ZB (atStart W) fun _=>False) (fun _=>False) (fun _=>False):=by
  have hdv:TS []=fun _=>0:=by funext g;unfold TS;split <;>simp
  rw[hdv]
  refine⟨TK.empty,fun g k M e=>?_,fun g g' k M k' M' hne e1 e2=>?_,fun b g k M o hb=>hb.elim,fun b g k M o e ho hh=>?_,fun b g k M hb=>hb.elim,fun b hb=>(hb.elim id id).elim⟩
  ·obtain⟨rfl,rfl,rfl⟩:=fV e;exact K
  ·obtain⟨rfl,_,_⟩:=fV e1
   obtain⟨rfl,_,_⟩:=fV e2
   exact absurd rfl hne
  ·obtain⟨rfl,rfl,rfl⟩:=fV e;exact hf b o ho hh
 have I:sO P (fun _=>False) #[g] W #[] (atStart W) (fun _=>False) []:=⟨rfl,Y,fun i q hi=>by simp at hi,Kept.refl W,fun b hb=>hb.elim⟩
 have:=Mo.ends (fun _ _ _ h=>h) H [] #[g] W #[] none ⟨I,rfl⟩
 rw[solo_eq_crowd]
 exact this
end top
end Go.aS

/- Moves, in short. Conditions: none; over any program. -/
namespace Go.aS
section
variable{x:Cx}{Q:Post}{K:Env→List Deferred→ah→Prop}{ρ:Env}{ds:List Deferred}{F:ah}{ops:Array Oper}{i:Nat}{rest:List Nat}{v:Value}{d:Tmp}{ty:TypeId}{pos:String}{bK:Array Edge}{y:Operand}
theorem qm(ho:cO ops.toList i=some ⟨some d,.move y,ty,pos,bK,none⟩)(hy:ev ρ y=some v)(hd:Nat.blt d x.n=true)(H:Ops x ops rest Q ((d,v)::ρ) ds F):Ops x ops (i::rest) Q ρ ds F:=oq (aN rfl hy) ho wn hd rfl H
theorem agb(ho:cO ops.toList i=some ⟨some d,.assign y,ty,pos,bK,none⟩)(hy:ev ρ y=some v)(hd:Nat.blt d x.n=true)(H:Ops x ops rest Q ((d,v)::ρ) ds F):Ops x ops (i::rest) Q ρ ds F:=oq (jS rfl hy) ho wn hd rfl H
theorem agW{op:Op}(hy:Yv x (· =F) ρ ⟨some d,op,ty,pos,bK,none⟩ v)(ho:cO ops.toList i=some ⟨some d,op,ty,pos,bK,none⟩)(H:Ops x ops rest Q ((d,v)::ρ) ds F)(hd:Nat.blt d x.n=true:=by exact rfl)(hn:cu op=true:=by exact rfl):Ops x ops (i::rest) Q ρ ds F:=oq hy ho wn hd hn H
theorem xq{op:Op}{L:ah}{fuel listed:Nat}(i:Nat)(hy:Yv x (Keeps L) ρ ⟨some d,op,ty,pos,bK,none⟩ v)(ho:cO ops.toList i=some ⟨some d,op,ty,pos,bK,none⟩)(H:Any x ops L fuel (listed||| 2 ^ i) Q ((d,v)::ρ) ds F)(hd:Nat.blt d x.n=true:=by exact rfl)(hn:cu op=true:=by exact rfl)(hr:(Fq ops listed i&&xR ops listed i&&DJ ops)=true:=by kernel_rfl)(hS:Keeps L F:=by first | exact fun _ h=>h | exact fun _ h=>absurd h List.not_mem_nil | ((repeat(first | exact fun _ h=>h | apply Keeps.cons | apply Keeps.app)) <;>fail) | (repeat(first | exact Keeps.nil | refine Keeps.one (by repeat(first | exact List.Mem.head _ | apply List.Mem.tail)) ?_))):Any x ops L (fuel+1) listed Q ρ ds F:=aq hy ho an hd hn H hr hS
theorem agY{op:Op}(ho:cO ops.toList i=some ⟨some d,op,ty,pos,bK,none⟩)(H:Ops x ops rest Q ((d,v)::ρ) ds F)(hy:Yv x (· =F) ρ ⟨some d,op,ty,pos,bK,none⟩ v:=by exact ay rfl rfl)(hd:Nat.blt d x.n=true:=by exact rfl)(hn:cu op=true:=by exact rfl):Ops x ops (i::rest) Q ρ ds F:=oq hy ho wn hd hn H
theorem agX{op:Op}(ho:cO ops.toList i=some ⟨some d,op,ty,pos,bK,none⟩)(H:Ops x ops rest Q ((d,v)::ρ) ds F)(hy:Yv x (· =F) ρ ⟨some d,op,ty,pos,bK,none⟩ v:=by exact iQ rfl rfl)(hd:Nat.blt d x.n=true:=by exact rfl)(hn:cu op=true:=by exact rfl):Ops x ops (i::rest) Q ρ ds F:=oq hy ho wn hd hn H
theorem ag2{op:Op}(ho:cO ops.toList i=some ⟨some d,op,ty,pos,bK,none⟩)(H:Ops x ops rest Q ((d,v)::ρ) ds F)(hy:Yv x (· =F) ρ ⟨some d,op,ty,pos,bK,none⟩ v:=by first | exact Bf rfl rfl | exact zi rfl rfl)(hd:Nat.blt d x.n=true:=by exact rfl)(hn:cu op=true:=by exact rfl):Ops x ops (i::rest) Q ρ ds F:=oq hy ho wn hd hn H
theorem ag1{op:Op}(ho:cO ops.toList i=some ⟨some d,op,ty,pos,bK,none⟩)(H:Ops x ops rest Q ((d,v)::ρ) ds F)(hy:Yv x (· =F) ρ ⟨some d,op,ty,pos,bK,none⟩ v:=by first | exact Zi rfl rfl rfl | exact MZ rfl rfl rfl)(hd:Nat.blt d x.n=true:=by exact rfl)(hn:cu op=true:=by exact rfl):Ops x ops (i::rest) Q ρ ds F:=oq hy ho wn hd hn H
theorem ag5{op:Op}(ho:cO ops.toList i=some ⟨some d,op,ty,pos,bK,none⟩)(H:Ops x ops rest Q ((d,v)::ρ) ds F)(hy:Yv x (· =F) ρ ⟨some d,op,ty,pos,bK,none⟩ v:=by first | exact acL rfl rfl rfl | exact M_ rfl rfl rfl)(hd:Nat.blt d x.n=true:=by exact rfl)(hn:cu op=true:=by exact rfl):Ops x ops (i::rest) Q ρ ds F:=oq hy ho wn hd hn H
theorem ag3{op:Op}(ho:cO ops.toList i=some ⟨some d,op,ty,pos,bK,none⟩)(H:Ops x ops rest Q ((d,v)::ρ) ds F)(hy:Yv x (· =F) ρ ⟨some d,op,ty,pos,bK,none⟩ v:=by first | exact G_ rfl rfl rfl | exact o_ rfl rfl rfl)(hd:Nat.blt d x.n=true:=by exact rfl)(hn:cu op=true:=by exact rfl):Ops x ops (i::rest) Q ρ ds F:=oq hy ho wn hd hn H
theorem ag4{op:Op}(ho:cO ops.toList i=some ⟨some d,op,ty,pos,bK,none⟩)(H:Ops x ops rest Q ((d,v)::ρ) ds F)(hy:Yv x (· =F) ρ ⟨some d,op,ty,pos,bK,none⟩ v:=by first | exact bg rfl rfl | exact aT rfl rfl)(hd:Nat.blt d x.n=true:=by exact rfl)(hn:cu op=true:=by exact rfl):Ops x ops (i::rest) Q ρ ds F:=oq hy ho wn hd hn H
theorem pq(H:K ρ ds F):Ops x ops [] (thn K Q) ρ ds F:=Ops.nil (aA H)
end
end Go.aS

/- Short forms for walks: results, calls of functions that only answer. Conditions: none; over any program. -/
namespace Go.aS
def RI(ρ:Env):List ResultVar→Option (List Value)
 | []=>some []
 | .tmp t::r=>match look ρ t,RI ρ r with
  | some v,some vs=>some (v::vs)
  | _,_=>none
 | .cell _ _::_=>none
theorem TV{P:Program}{h:Hp}{F:ah}{ρ:Env}:∀{rs:List ResultVar} {vs:List Value},RI ρ rs=some vs→rD P h F rs ρ vs
 | [],vs,e=>by simp only[RI,Option.some.injEq]at e;exact e.symm
 | .tmp t::r,vs,e=>by
  simp only[RI]at e
  split at e
  ·rename_i v vs' h1 h2
   cases e
   exact⟨v,vs',rfl,h1,TV h2⟩
  ·cases e
 | .cell _ _::_,vs,e=>by cases e

abbrev Pu(P:Program)(main:Side)(f:FuncId)(args:Array Value)(h:Hp)(u:Value):Prop:=dV P main f args h [] (fun v A=>v=u∧Shut A)

section
variable{P:Program}{main:Side}{fn:Func}{h:Hp}{R:Value→ah→Prop}{e:Exit}{ρ:Env}{F:ah}{ds:List Deferred}
theorem mg{vs:List Value}(hR:R (pack vs) F)(he:e= .ret∨e= .normal:=by first | exact .inl rfl | exact .inr rfl)(hv:RI ρ fn.results.toList=some vs:=by rfl):leave P main fn h R e ρ [] F:=
 OV he (by simp) (TV hv) hR
theorem uZ{u:Value}{vs:List Value}(hu:pack vs=u)(he:e= .ret∨e= .normal:=by first | exact .inl rfl | exact .inr rfl)(hv:RI ρ fn.results.toList=some vs:=by rfl)(hs:Shut F:=by repeat(first | exact Shut.nil | assumption | refine Shut.cons rfl ?_ | refine Shut.app ?_ ?_)):leave P main fn h (fun v A=>v=u∧Shut A) e ρ [] F:=
 mg ⟨hu,hs⟩ he hv

theorem Tc.marked{d:Nat}{K:ah→Prop}{U:Obj→ah}(hl:At d (.deferred (some [])) F U)(H:Tc P main h ds (U (.deferred none)) K):Tc P main h (mark d::ds) F K:=by
 obtain⟨F1,F2,e1,e2⟩:=hl.split
 show tr P h (Instr.takeDeferred d) F fun l F'=>l=[]∧Tc P main h ds F' K
 simp only[Instr.takeDeferred,bind_eq,au]
 refine⟨.deferred (some []),.inr (e1▸by simp),(fun _ _ _=>by simp),rfl,?_⟩
 refine⟨.deferred (some []),F1,F2,e1,(fun _ _ _=>by simp),rfl,rfl,?_⟩
 rw[e2]at H
 exact H
theorem lvm{d:Nat}{U:Obj→ah}(H:leave P main fn h R e ρ ds (U (.deferred none)))(hl:At d (.deferred (some [])) F U:=by repeat(first | exact At.head | apply At.tail | apply At.app)):leave P main fn h R e ρ (mark d::ds) F:=
 ⟨H.1,Tc.marked hl H.2⟩
end
section
variable{x:Cx}{Q:Post}{ρ:Env}{ds:List Deferred}{F:ah}{ops:Array Oper}{i:Nat}{rest:List Nat}{d:Tmp}{ty:TypeId}{pos:String}{bK:Array Edge}{g:Option (Nat×Bool)}{L:ah}
variable{f:FuncId}{args:List Operand}{ts:Array TypeId}{vs:List Value}
theorem cp{u:Value}(H:∀h',Ext x.h h'→fF F h'→Pu x.P x.main f vs.toArray h' u)(K:Ops x ops rest Q ((d,u)::ρ) ds F)(ho:cO ops.toList i=some ⟨some d,.call ⟨.value (.func f),args.toArray,ts⟩,ty,pos,bK,g⟩:=by rfl)[FB x.P f](hv:evs ρ args=some vs:=by rfl)
  (hw:want ops ρ ⟨some d,.call ⟨.value (.func f),args.toArray,ts⟩,ty,pos,bK,g⟩:=by first | exact wn | exact ak rfl rfl rfl) (hd:Nat.blt d x.n=true:=by rfl):Ops x ops (i::rest) Q ρ ds F:=
 Ops.eff (o:=⟨some d,.call ⟨.value (.func f),args.toArray,ts⟩,ty,pos,bK,g⟩) (lQ rfl hv H fun v A' hv=>by
  obtain⟨rfl,hs⟩:=hv
  exact Ops.sb (Sb.left .refl hs) K) (aU ho) hw hd rfl
theorem c0{R':Value→ah→Prop}(H:∀h',Ext x.h h'→fF F h'→dV x.P x.main f vs.toArray h' [] R')(K:∀v A',R' v A'→Ops x ops rest Q ((d,v)::ρ) ds (A'++F))(ho:cO ops.toList i=some ⟨some d,.call ⟨.value (.func f),args.toArray,ts⟩,ty,pos,bK,g⟩:=by rfl)[FB x.P f](hv:evs ρ args=some vs:=by rfl)
  (hw:want ops ρ ⟨some d,.call ⟨.value (.func f),args.toArray,ts⟩,ty,pos,bK,g⟩:=by first | exact wn | exact ak rfl rfl rfl) (hd:Nat.blt d x.n=true:=by rfl):Ops x ops (i::rest) Q ρ ds F:=
 Ops.eff (o:=⟨some d,.call ⟨.value (.func f),args.toArray,ts⟩,ty,pos,bK,g⟩) (lQ rfl hv H fun v A' hv=>K v A' hv) (aU ho) hw hd rfl
theorem cg{A:ah}{U:ah→ah}{R':Value→ah→Prop}(hs:Seg A F U)(H:∀h',Ext x.h h'→fF (U []) h'→dV x.P x.main f vs.toArray h' A R')(K:∀v A',R' v A'→Ops x ops rest Q ((d,v)::ρ) ds (U A'))(ho:cO ops.toList i=some ⟨some d,.call ⟨.value (.func f),args.toArray,ts⟩,ty,pos,bK,g⟩:=by rfl)[FB x.P f](hv:evs ρ args=some vs:=by rfl)
  (hw:want ops ρ ⟨some d,.call ⟨.value (.func f),args.toArray,ts⟩,ty,pos,bK,g⟩:=by first | exact wn | exact ak rfl rfl rfl) (hd:Nat.blt d x.n=true:=by rfl):Ops x ops (i::rest) Q ρ ds F:=
 Ops.eff (o:=⟨some d,.call ⟨.value (.func f),args.toArray,ts⟩,ty,pos,bK,g⟩) (QZ rfl hv hs H fun v A' hv=>K v A' hv) (aU ho) hw hd rfl
end
section
variable{x:Cx}{Q:Post}{ρ:Env}{ds:List Deferred}{F:ah}{ops:Array Oper}{i:Nat}{rest:List Nat}{d:Tmp}{op:Op}{ty:TypeId}{pos:String}{bK:Array Edge}{g:Option (Nat×Bool)}{L:ah}
theorem Jr{d:Nat}{v:Value}(h:look ρ d=some v):look ((d,v)::ρ)=look ρ:=by
 funext t
 show(bif Nat.beq t d then some v else look ρ t)=look ρ t
 cases e:Nat.beq t d with
 | true=>rw[Nat.eq_of_beq_eq_true e,h];rfl
 | false=>rfl
theorem Any.ask{fuel listed d':Nat}{p:Prop}[Decidable p](ht:p→Any x ops L fuel listed Q ((d',.bool true)::ρ) ds F)(hf:¬p→Any x ops L fuel listed Q ((d',.bool false)::ρ) ds F)(hv:look ρ d'=some (.bool (decide p)):=by rfl):Any x ops L fuel listed Q ρ ds F:=by
 by_cases hp:p
 ·have:=ht hp
  have e:look ρ d'=some (.bool true):=by rw[hv];simp[hp]
  unfold Any at this⊢
  rwa[Jr e]at this
 ·have:=hf hp
  have e:look ρ d'=some (.bool false):=by rw[hv];simp[hp]
  unfold Any at this⊢
  rwa[Jr e]at this
theorem Ops.RV{j d':Nat}{w b:Bool}{D:Option Tmp}(ht:b=true→Ops x ops (i::rest) Q ((d',.bool true)::ρ) ds F)(hf:b=false→Ops x ops (i::rest) Q ((d',.bool false)::ρ) ds F)(ho:cO ops.toList i=some ⟨D,op,ty,pos,bK,some (j,w)⟩:=by rfl)(hj:(cO ops.toList j).bind (·.dst)=some d':=by rfl)(hv:look ρ d'=some (.bool b):=by rfl):Ops x ops (i::rest) Q ρ ds F:=by
 have key:∀u:Bool,b=u→Ops x ops (i::rest) Q ((d',.bool u)::ρ) ds F→Ops x ops (i::rest) Q ρ ds F:=by
  intro u hu H b' k cs Stop tmps hk M h1 h0 h2 h3 h4 h5 hc
  refine H b' k cs Stop tmps hk M h1 h0 h2 (fun t y hy=>?_) h4 h5 hc
  rw[Jr (hu▸hv)]at hy
  exact h3 t y hy
 cases b with
 | true=>exact key true rfl (ht rfl)
 | false=>exact key false rfl (hf rfl)
variable{f:FuncId}{args:List Operand}{ts:Array TypeId}{vs:List Value}
theorem Va{fuel listed:Nat}{u:Value}(H:∀h',Ext x.h h'→fF F h'→Pu x.P x.main f vs.toArray h' u)(K:Any x ops L fuel (listed||| 2 ^ i) Q ((d,u)::ρ) ds F)(hS:lastT ops i=true∨Keeps L F:=by first | exact .inr (by repeat(first | exact fun _ h=>h | apply Keeps.cons | apply Keeps.app)) | exact .inl (by kernel_rfl))
  (ho:cO ops.toList i=some ⟨some d,.call ⟨.value (.func f),args.toArray,ts⟩,ty,pos,bK,g⟩:=by rfl) [FB x.P f] (hv:evs ρ args=some vs:=by rfl)
  (hw:dR ops (look ρ) ⟨some d,.call ⟨.value (.func f),args.toArray,ts⟩,ty,pos,bK,g⟩ true:=by first | exact an | exact b_ rfl rfl rfl rfl) (hd:Nat.blt d x.n=true:=by rfl) (hr:qx ops listed=[i]:=by kernel_rfl):Any x ops L (fuel+1) listed Q ρ ds F:=
 Any.eff (o:=⟨some d,.call ⟨.value (.func f),args.toArray,ts⟩,ty,pos,bK,g⟩) (lQ rfl hv H fun v A' hv=>by
  obtain⟨rfl,hs⟩:=hv
  exact⟨hS.imp id fun k p hp=>List.mem_append_right _ (k p hp),Any.sb (Sb.left .refl hs) K⟩) hr (aU ho) hw hd rfl
end
section
variable{x:Cx}{Q Q':Post}{ρ:Env}{ds:List Deferred}{F:ah}
theorem PG{K K':Env→List Deferred→ah→Prop}{e:Exit}{ρ:Env}{ds:List Deferred}{F:ah}(h:thn K Q e ρ ds F)(hk:∀ρ ds F,K ρ ds F→K' ρ ds F):thn K' Q e ρ ds F:=by
 cases e <;>first | exact hk _ _ _ h | exact h
theorem W.aa1{σ τ:Type}{c:Code}(C:σ→τ→Prop)(E:σ→τ→Env)(D:σ→τ→ah)(μ:σ→τ→Nat)(s₀:σ)(t₀:τ)(h₀:C s₀ t₀)(he:Sub (E s₀ t₀) ρ)(hF:Sb (D s₀ t₀) F)
  (round:∀s t,C s t→W x c (thn (fun ρ' ds' F'=>ds'=ds∧∃s' t',C s' t'∧μ s' t'<μ s t∧Sub (E s' t') ρ'∧Sb (D s' t') F') Q) (E s t) ds (D s t)):W x (.loop c) Q ρ ds F:=
 W.loop (σ:=σ×τ) (fun p=>C p.1 p.2) (fun p=>E p.1 p.2) (fun p=>D p.1 p.2) (fun p=>μ p.1 p.2) (s₀,t₀) h₀ he hF fun p h=>(round p.1 p.2 h).mono fun _ _ _ _ q=>PG q fun _ _ _ ⟨e,s',t',h1⟩=>⟨e,(s',t'),h1⟩
theorem W.Js{σ τ υ:Type}{c:Code}(C:σ→τ→υ→Prop)(E:σ→τ→υ→Env)(D:σ→τ→υ→ah)(μ:σ→τ→υ→Nat)(s₀:σ)(t₀:τ)(u₀:υ)(h₀:C s₀ t₀ u₀)(he:Sub (E s₀ t₀ u₀) ρ)(hF:Sb (D s₀ t₀ u₀) F)
  (round:∀s t u,C s t u→W x c (thn (fun ρ' ds' F'=>ds'=ds∧∃s' t' u',C s' t' u'∧μ s' t' u'<μ s t u∧Sub (E s' t' u') ρ'∧Sb (D s' t' u') F') Q) (E s t u) ds (D s t u)):W x (.loop c) Q ρ ds F:=
 W.loop (σ:=σ×τ×υ) (fun p=>C p.1 p.2.1 p.2.2) (fun p=>E p.1 p.2.1 p.2.2) (fun p=>D p.1 p.2.1 p.2.2) (fun p=>μ p.1 p.2.1 p.2.2) (s₀,t₀,u₀) h₀ he hF fun p h=>(round p.1 p.2.1 p.2.2 h).mono fun _ _ _ _ q=>PG q fun _ _ _ ⟨e,s',t',u',h1⟩=>⟨e,(s',t',u'),h1⟩
end
theorem Part.Bo{α:Type}{row:α→List Value}{w:Nat}[Rw row w]{c:Array Value}{off i:Nat}{l:List α}{p:α}(h:Part c off (flat row l))(hi:l[i]? =some p)(k:Nat)(hk:k<w):c[off+i*w+k]? =(row p)[k]? :=
 (h.rowP hi).get (by rw[Rw.len];exact hk)

theorem Sl.at{α:Type}{row:α→List Value}{w:Nat}[Rw row w]{h:Hp}{a:Option Addr}{n cap:Nat}{l:List α}{i:Nat}{p:α}(H:Sl h row (.slice a n cap) l)(hi:l[i]? =some p):
  ∃b off c E fz,a=some ⟨b,off,none⟩∧h b=some (.cells c E fz)∧c.extract (off+i*w) (off+i*w+w)=(row p).toArray∧off+i*w+w≤c.size∧∀k,k<w→c[off+i*w+k]? =(row p)[k]? :=by
 have hne:l≠[]:=by rintro rfl;simp at hi
 obtain⟨a',cap',e,hx⟩:=H
 cases e
 obtain⟨b,off,c,E,fz,rfl,hb,hp⟩:=hx hne
 obtain⟨h1,h2⟩:=hp.abd hi
 exact⟨b,off,c,E,fz,rfl,hb,h1,h2,fun k hk=>hp.Bo hi k hk⟩
theorem has{α:Type}{l:List α}{i:Nat}(h:i<l.length):∃p,l[i]? =some p∧l.drop i=p::l.drop (i+1):=⟨l[i],List.getElem?_eq_getElem h,(List.getElem_cons_drop ..).symm⟩
theorem Sl.dA{α:Type}{row:α→List Value}{w:Nat}[Rw row w]{h:Hp}{v:Value}{l:List α}(H:Sl h row v l):∃a cap,v= .slice a l.length cap:=by
 obtain⟨a,cap,e,_⟩:=H
 exact⟨a,cap,e⟩

theorem TW{A B:ah}(h:Sb A B:=by repeat(first | exact Sb.refl | apply Sb.cons | refine Sb.skip rfl ?_ | exact Sb.nil (by assumption))):Sb A B:=h
end Go.aS
