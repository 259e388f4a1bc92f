/- The mutex's Lock, as a worker calls it. Conditions: none; over the given program. (And 8 texts more.) -/
import Derived.Test.YtkkdgffaohidnaaGreatDoorR08
import Derived.Test.YtkkdgffaohidnaaGreatDoorR07
import Init
import Derived.Test.YtkkdgffaohidnaaGreatDoorR06
set_option linter.unusedVariables false
set_option linter.unusedSimpArgs false
set_option linter.unusedSectionVars false

/- The mutex's Lock, as a worker calls it. Conditions: none; over the given program. -/
namespace Go.aS
set_option maxRecDepth 100000
set_option maxHeartbeats 4000000
structure LkS where
 ws:Int
 sv:Bool
 aw:Bool
 it:Nat
 st:Nat
 B:Nat
def LkS.OK(s:LkS):Prop:=s.it≤4∧s.st<528∧(s.aw=true→s.st / 2 % 2=1∧s.st / 4 % 2=0)∧(s.sv=true→s.aw=true)

theorem MF.word{r:MR}{old:Option Nat}{B:Nat}{x:XS}(h:MF r old B x):x.m.st<528∧x.m.l=x.m.st % 2∧x.m.w=x.m.st / 2 % 2∧x.m.s=x.m.st / 4 % 2∧x.m.n=x.m.st / 8:=by
 obtain⟨⟨h1,h2,h3⟩,h4,-⟩:=h
 simp only[kQ.st]
 omega
theorem MF.rl{aw:Bool}{old:Option Nat}{B:Nat}{x:XS}(h:MF (rl aw) old B x)(ha:aw=true):x.m.st / 2 % 2=1∧x.m.st / 4 % 2=0:=by
 obtain⟨-,w2,w3,w4,-⟩:=h.word
 obtain⟨-,-,-,-,-,-,h7,-⟩:=h
 have:=h7 (by rw[ha];rfl)
 omega

theorem P5{γ:GP}(hm:γ.mu≠none){B:Nat}:iK prog false (aJ γ.toGrp) aX #[.pointer (some ⟨γ.Mu,0,none⟩)] (.mu .out none B 1 0) fun v s=>v= .tuple #[]∧∃o B,s= .mu .hold o B 0 1:=by
 have hq:(prog.funcs[aX]?).any (·.norace)=true:=by rw[nN];exact JG
 refine iK.aG nN rfl (by show 1≤139;decide) [(0,.pointer (some ⟨γ.Mu,0,none⟩))] ⟨rfl,trivial⟩ ?_
 refine L.seq<|L.region rfl<|lq rfl (aH rfl rfl)<|aI<|aB<|L.seq<|L.region rfl<|lq rfl (aH rfl rfl)<|aI<|aB ?_
 refine L.seq<|L.region rfl<|lq rfl (aH rfl rfl)<|aI<|aB<|L.seq<|L.region rfl<|lq rfl (aH rfl rfl)<|aI<|aB ?_
 refine L.seq<|L.region rfl<|lq rfl (aj rfl rfl)<|lq rfl (aK rfl rfl)<|lq rfl (aF rfl rfl) ?_
 refine yA hm hq rfl rfl (fun x hx=>?_)
 obtain⟨w1,w2,w3,w4,w5⟩:=hx.word
 refine lq rfl (aH rfl rfl)<|aI<|aB<|L.seq<|L.block ?_
 refine L.loop (x:=⟨prog,false,aJ γ.toGrp,aX,bn.ntmps⟩) (σ:=LkS) LkS.OK (fun s=>[(0,.pointer (some ⟨γ.Mu,0,none⟩)),(2,.int .i64 s.ws),(3,.bool s.sv),(4,.bool s.aw),(5,.int .i64 (s.it:Int)),(6,.int .i32 (s.st:Int))])
  (fun s=>(LS.mu (rl s.aw) (some s.st) s.B 1 0:LS)) (fun s=>8*s.B+(4-s.it)) ⟨0,false,false,0,x.m.st,x.E⟩ ⟨by simp,w1,(fun h=>by cases h),(fun h=>by cases h)⟩ ⟨rfl,rfl,rfl,rfl,rfl,rfl,trivial⟩ rfl (fun s hC=>?_)
 obtain⟨ws,sv,aw,it,st,B⟩:=s
 obtain⟨k1,k2,k3,k4⟩:=hC
 replace k1:it≤4:=k1
 replace k2:st<528:=k2
 replace k3:aw=true→st / 2 % 2=1∧st / 4 % 2=0:=k3
 replace k4:sv=true→aw=true:=k4
 refine L.qc (s':=.mu (rl aw) (some st) B 1 0) rfl ?_
 refine L.env (ρ':=[(0,.pointer (some ⟨γ.Mu,0,none⟩)),(2,.int .i64 ws),(3,.bool sv),(4,.bool aw),(5,.int .i64 (it:Int)),(6,.int .i32 (st:Int))]) ⟨rfl,rfl,rfl,rfl,rfl,rfl,trivial⟩ ?_
 refine L.block ?_
 refine L.cut (x:=⟨prog,false,aJ γ.toGrp,aX,bn.ntmps⟩) (fun ρ' ds' s'=>ds'=[]∧s'=(LS.mu (rl aw) (some st) B 1 0:LS)∧Sub [(0,.pointer (some ⟨γ.Mu,0,none⟩)),(2,.int .i64 ws),(3,.bool sv),(4,.bool aw),(5,.int .i64 (it:Int)),(6,.int .i32 (st:Int))] ρ') ?_ ?_
 ·refine L.seq<|L.region rfl<|lq rfl (aj rfl rfl) ?_
  refine iy rfl (jI rfl rfl rfl) (congrArg (Value.int .i32) (mu5 (by omega))) ?_
  refine lq rfl (kF rfl rfl rfl) ?_
  refine lq rfl (aj rfl rfl) ?_
  refine LO.ask (fun aeY=>?_) (fun aeY=>?_)
  ·refine lq rfl (aj rfl rfl) ?_
   refine adr rfl rfl (fun b hb=>?_)
   refine lq rfl (eP rfl rfl rfl)<|aI<|aB ?_
   refine L.cond rfl (fun c20=>?_) (fun c20=>?_)
   ·refine L.seq<|L.seq<|L.region rfl<|lq rfl (aj rfl rfl) ?_
    refine lq rfl (XA rfl rfl) ?_
    refine lq rfl (aj rfl rfl) ?_
    refine LO.RV (fun ads=>?_) (fun ads=>?_)
    ·refine lq rfl (aj rfl rfl) ?_
     refine iy rfl (jI rfl rfl rfl) (congrArg (Value.int .i32) (mu2 (by omega))) ?_
     refine lq rfl (kF rfl rfl rfl) ?_
     refine lq rfl (eP rfl rfl rfl)<|lq rfl (aj rfl rfl) ?_
     refine LO.ask (fun abO=>?_) (fun abO=>?_)
     ·refine lq rfl (aj rfl rfl) ?_
      refine iy rfl (Eb rfl rfl rfl (by decide)) (congrArg (Value.int .i32) (Vh (by omega))) ?_
      refine lq rfl (jH rfl rfl rfl) ?_
      refine lq rfl (eP rfl rfl rfl)<|lq rfl (aj rfl rfl) ?_
      refine LO.ask (fun adt=>?_) (fun adt=>?_)
      ·refine lq rfl (aj rfl rfl)<|lq rfl (aK rfl rfl)<|lq rfl (aF rfl rfl)<|lq rfl (aj rfl rfl)<|lq rfl (aj rfl rfl) ?_
       refine iy rfl (XB rfl rfl rfl) (congrArg (Value.int .i32) (adl (by omega))) ?_
       have hw0:aw=false:=by simpa using ads
       subst hw0
       rw[show st+2*(1-st / 2 % 2)=st+2 by omega]
       refine XL (o:=st) (nw:=st+2) (r':=.FD) hm rfl rfl ⟨hm,Nat.one_pos,by decide,⟨kQ.set ⟨0,0,0,0,0⟩ st,⟨show st % 2≤1 by omega,show st / 2 % 2≤1 by omega,show st / 4 % 2≤1 by omega⟩,(kQ.wM _ _).symm,⟨show st / 4 % 2=0 by omega,show st / 2 % 2=0 by omega,by rw[kQ.wM]⟩⟩,.inl rfl⟩ ?_ ?_
       ·refine lq rfl (eP rfl rfl rfl)<|aI<|aB ?_
        refine L.dW ?_
        refine L.region rfl<|lq rfl (aH rfl rfl)<|aI<|aB<|L.seq<|L.region rfl ?_
        refine lx0 (vs:=[]) rfl rfl (fun w=>sG) ?_
        refine aI<|aB<|L.seq<|L.region rfl<|lq rfl (aj rfl rfl) ?_
        refine iy (u:=.int .i64 ((it+1:Nat):Int)) rfl (rU rfl rfl rfl) (congrArg (Value.int .i64) (by rw[nC (by omega) (by omega)];omega)) ?_
        refine lq rfl (aH rfl rfl)<|aI<|aB<|L.seq<|L.region rfl<|lq rfl (aj rfl rfl)<|lq rfl (aK rfl rfl)<|lq rfl (aF rfl rfl) ?_
        refine yA hm hq rfl rfl (fun x hx=>?_)
        obtain⟨w1,w2,w3,w4,w5⟩:=hx.word
        have hE:x.E≤B:=by first | exact(hx.2.2.2.1 _ rfl).1 | exact Nat.le_of_lt (hx.2.2.2.2.1 rfl)
        have hb4:=hb c20
        refine lq rfl (aH rfl rfl)<|aI<|aB<|L.exit<|qB<|Di<|aB ?_
        exact⟨rfl,⟨ws,sv,true,it+1,x.m.st,x.E⟩,⟨by simp only;omega,w1,fun _=>MF.rl (aw:=true) hx rfl,fun _=>rfl⟩,by simp only;omega,⟨rfl,rfl,rfl,rfl,rfl,rfl,trivial⟩,rfl⟩
       ·refine lq rfl (eP rfl rfl rfl)<|aI<|aB ?_
        refine L.bZ ?_
        refine L.skip<|aB<|L.seq<|L.region rfl ?_
        refine lx0 (vs:=[]) rfl rfl (fun w=>sG) ?_
        refine aI<|aB<|L.seq<|L.region rfl<|lq rfl (aj rfl rfl) ?_
        refine iy (u:=.int .i64 ((it+1:Nat):Int)) rfl (rU rfl rfl rfl) (congrArg (Value.int .i64) (by rw[nC (by omega) (by omega)];omega)) ?_
        refine lq rfl (aH rfl rfl)<|aI<|aB<|L.seq<|L.region rfl<|lq rfl (aj rfl rfl)<|lq rfl (aK rfl rfl)<|lq rfl (aF rfl rfl) ?_
        refine yA hm hq rfl rfl (fun x hx=>?_)
        obtain⟨w1,w2,w3,w4,w5⟩:=hx.word
        have hE:x.E≤B:=by first | exact(hx.2.2.2.1 _ rfl).1 | exact Nat.le_of_lt (hx.2.2.2.2.1 rfl)
        have hb4:=hb c20
        refine lq rfl (aH rfl rfl)<|aI<|aB<|L.exit<|qB<|Di<|aB ?_
        exact⟨rfl,⟨ws,sv,_,it+1,x.m.st,x.E⟩,⟨by simp only;omega,w1,fun ha=>MF.rl hx ha,k4⟩,by simp only;omega,⟨rfl,rfl,rfl,rfl,rfl,rfl,trivial⟩,by rw[wu];try rfl⟩
      ·refine gY ?_
       refine gY ?_
       refine gY ?_
       refine gY ?_
       refine gY ?_
       refine gY ?_
       refine gY ?_
       refine lq rfl (dh rfl rfl rfl)<|aI<|aB ?_
       refine L.bZ ?_
       refine L.skip<|aB<|L.seq<|L.region rfl ?_
       refine lx0 (vs:=[]) rfl rfl (fun w=>sG) ?_
       refine aI<|aB<|L.seq<|L.region rfl<|lq rfl (aj rfl rfl) ?_
       refine iy (u:=.int .i64 ((it+1:Nat):Int)) rfl (rU rfl rfl rfl) (congrArg (Value.int .i64) (by rw[nC (by omega) (by omega)];omega)) ?_
       refine lq rfl (aH rfl rfl)<|aI<|aB<|L.seq<|L.region rfl<|lq rfl (aj rfl rfl)<|lq rfl (aK rfl rfl)<|lq rfl (aF rfl rfl) ?_
       refine yA hm hq rfl rfl (fun x hx=>?_)
       obtain⟨w1,w2,w3,w4,w5⟩:=hx.word
       have hE:x.E≤B:=by first | exact(hx.2.2.2.1 _ rfl).1 | exact Nat.le_of_lt (hx.2.2.2.2.1 rfl)
       have hb4:=hb c20
       refine lq rfl (aH rfl rfl)<|aI<|aB<|L.exit<|qB<|Di<|aB ?_
       exact⟨rfl,⟨ws,sv,_,it+1,x.m.st,x.E⟩,⟨by simp only;omega,w1,fun ha=>MF.rl hx ha,k4⟩,by simp only;omega,⟨rfl,rfl,rfl,rfl,rfl,rfl,trivial⟩,by rw[wu];try rfl⟩
     ·refine gY ?_
      refine gY ?_
      refine gY ?_
      refine lq rfl (dh rfl rfl rfl)<|lq rfl (aj rfl rfl) ?_
      refine gY ?_
      refine gY ?_
      refine gY ?_
      refine gY ?_
      refine gY ?_
      refine gY ?_
      refine gY ?_
      refine lq rfl (dh rfl rfl rfl)<|aI<|aB ?_
      refine L.bZ ?_
      refine L.skip<|aB<|L.seq<|L.region rfl ?_
      refine lx0 (vs:=[]) rfl rfl (fun w=>sG) ?_
      refine aI<|aB<|L.seq<|L.region rfl<|lq rfl (aj rfl rfl) ?_
      refine iy (u:=.int .i64 ((it+1:Nat):Int)) rfl (rU rfl rfl rfl) (congrArg (Value.int .i64) (by rw[nC (by omega) (by omega)];omega)) ?_
      refine lq rfl (aH rfl rfl)<|aI<|aB<|L.seq<|L.region rfl<|lq rfl (aj rfl rfl)<|lq rfl (aK rfl rfl)<|lq rfl (aF rfl rfl) ?_
      refine yA hm hq rfl rfl (fun x hx=>?_)
      obtain⟨w1,w2,w3,w4,w5⟩:=hx.word
      have hE:x.E≤B:=by first | exact(hx.2.2.2.1 _ rfl).1 | exact Nat.le_of_lt (hx.2.2.2.2.1 rfl)
      have hb4:=hb c20
      refine lq rfl (aH rfl rfl)<|aI<|aB<|L.exit<|qB<|Di<|aB ?_
      exact⟨rfl,⟨ws,sv,_,it+1,x.m.st,x.E⟩,⟨by simp only;omega,w1,fun ha=>MF.rl hx ha,k4⟩,by simp only;omega,⟨rfl,rfl,rfl,rfl,rfl,rfl,trivial⟩,by rw[wu];try rfl⟩
    ·refine gY ?_
     refine gY ?_
     refine gY ?_
     refine lq rfl (dh rfl rfl rfl)<|lq rfl (aj rfl rfl) ?_
     refine gY ?_
     refine gY ?_
     refine gY ?_
     refine lq rfl (dh rfl rfl rfl)<|lq rfl (aj rfl rfl) ?_
     refine gY ?_
     refine gY ?_
     refine gY ?_
     refine gY ?_
     refine gY ?_
     refine gY ?_
     refine gY ?_
     refine lq rfl (dh rfl rfl rfl)<|aI<|aB ?_
     refine L.bZ ?_
     refine L.skip<|aB<|L.seq<|L.region rfl ?_
     refine lx0 (vs:=[]) rfl rfl (fun w=>sG) ?_
     refine aI<|aB<|L.seq<|L.region rfl<|lq rfl (aj rfl rfl) ?_
     refine iy (u:=.int .i64 ((it+1:Nat):Int)) rfl (rU rfl rfl rfl) (congrArg (Value.int .i64) (by rw[nC (by omega) (by omega)];omega)) ?_
     refine lq rfl (aH rfl rfl)<|aI<|aB<|L.seq<|L.region rfl<|lq rfl (aj rfl rfl)<|lq rfl (aK rfl rfl)<|lq rfl (aF rfl rfl) ?_
     refine yA hm hq rfl rfl (fun x hx=>?_)
     obtain⟨w1,w2,w3,w4,w5⟩:=hx.word
     have hE:x.E≤B:=by first | exact(hx.2.2.2.1 _ rfl).1 | exact Nat.le_of_lt (hx.2.2.2.2.1 rfl)
     have hb4:=hb c20
     refine lq rfl (aH rfl rfl)<|aI<|aB<|L.exit<|qB<|Di<|aB ?_
     exact⟨rfl,⟨ws,sv,_,it+1,x.m.st,x.E⟩,⟨by simp only;omega,w1,fun ha=>MF.rl hx ha,k4⟩,by simp only;omega,⟨rfl,rfl,rfl,rfl,rfl,rfl,trivial⟩,by rw[wu];try rfl⟩
   ·refine L.skip<|aB ?_
    exact⟨rfl,rfl,rfl,rfl,rfl,rfl,rfl,rfl,trivial⟩
  ·refine gY ?_
   refine gY ?_
   refine lq rfl (dh rfl rfl rfl)<|aI<|aB ?_
   refine L.bZ ?_
   refine L.skip<|aB ?_
   exact⟨rfl,rfl,rfl,rfl,rfl,rfl,rfl,rfl,trivial⟩
 ·rintro ρ' ds' s' ⟨rfl,rfl,hsub⟩
  refine L.env hsub ?_
  refine L.seq<|L.region rfl<|lq rfl (aj rfl rfl)<|lq rfl (aH rfl rfl)<|aI<|aB<|L.seq<|L.seq<|L.region rfl<|lq rfl (aj rfl rfl) ?_
  refine iy rfl (jI rfl rfl rfl) (congrArg (Value.int .i32) (mu4 (by omega))) ?_
  refine lq rfl (kF rfl rfl rfl) ?_
  refine aI<|aB ?_
  refine L.bC rfl (fun c52=>?_) (fun c52=>?_)
  ·refine L.region rfl<|lq rfl (aj rfl rfl) ?_
   refine iy (u:=.int .i32 ((st+(1-st % 2):Nat):Int)) rfl (XB rfl rfl rfl) (congrArg (Value.int .i32) (aeU (by omega))) ?_
   refine lq rfl (aH rfl rfl)<|aI<|aB ?_
   refine L.cut (x:=⟨prog,false,aJ γ.toGrp,aX,bn.ntmps⟩) (fun ρ' ds' s'=>ds'=[]∧s'=(LS.mu (rl aw) (some st) B 1 0:LS)∧∃v:Nat,((st % 2=0∧st / 4 % 2=0∧v=st+1)∨((st % 2=1∨st / 4 % 2=1)∧v=st+8))∧Sub [(0,.pointer (some ⟨γ.Mu,0,none⟩)),(2,.int .i64 ws),(3,.bool sv),(4,.bool aw),(5,.int .i64 (it:Int)),(6,.int .i32 (st:Int)),(7,.int .i32 (v:Int))] ρ') ?_ ?_
   ·refine L.seq<|L.region rfl<|lq rfl (aj rfl rfl) ?_
    refine iy rfl (jI rfl rfl rfl) (congrArg (Value.int .i32) (mu5 (by omega))) ?_
    refine lq rfl (jH rfl rfl rfl) ?_
    refine aI<|aB ?_
    refine L.bC rfl (fun c57=>?_) (fun c57=>?_)
    ·refine L.region rfl<|lq rfl (aj rfl rfl) ?_
     first
     | refine iy (u:=.int .i32 ((st+(1-st % 2)+8:Nat):Int)) rfl (rU rfl rfl rfl) (congrArg (Value.int .i32) (by rw[wrap32 (by omega) (by omega)];omega)) ?_
     | refine iy (u:=.int .i32 ((st+8:Nat):Int)) rfl (rU rfl rfl rfl) (congrArg (Value.int .i32) (by rw[wrap32 (by omega) (by omega)];omega)) ?_
     refine lq rfl (aH rfl rfl)<|aI<|aB ?_
     exact⟨rfl,rfl,_,by omega,rfl,rfl,rfl,rfl,rfl,rfl,rfl,trivial⟩
    ·refine L.skip<|aB ?_
     exact⟨rfl,rfl,_,by omega,rfl,rfl,rfl,rfl,rfl,rfl,rfl,trivial⟩
   ·rintro ρ' ds' s' ⟨rfl,rfl,v,hv,hsub⟩
    refine L.env hsub ?_
    refine L.cut (x:=⟨prog,false,aJ γ.toGrp,aX,bn.ntmps⟩) (fun ρ' ds' s'=>ds'=[]∧s'=(LS.mu (rl aw) (some st) B 1 0:LS)∧∃u:Nat,((sv=true∧st % 2=1∧u=v+4)∨(¬(sv=true∧st % 2=1)∧u=v))∧Sub [(0,.pointer (some ⟨γ.Mu,0,none⟩)),(2,.int .i64 ws),(3,.bool sv),(4,.bool aw),(5,.int .i64 (it:Int)),(6,.int .i32 (st:Int)),(7,.int .i32 (u:Int))] ρ') ?_ ?_
    ·refine L.seq<|L.region rfl<|lq rfl (aj rfl rfl)<|lq rfl (aj rfl rfl) ?_
     refine LO.RV (fun jh=>?_) (fun jh=>?_)
     ·refine lq rfl (aj rfl rfl) ?_
      refine iy rfl (jI rfl rfl rfl) (congrArg (Value.int .i32) (mu1 (by omega))) ?_
      refine lq rfl (jH rfl rfl rfl) ?_
      refine lq rfl (eP rfl rfl rfl)<|aI<|aB ?_
      refine L.bC rfl (fun c65=>?_) (fun c65=>?_)
      ·refine L.region rfl<|lq rfl (aj rfl rfl) ?_
       refine iy rfl (XB rfl rfl rfl) (congrArg (Value.int .i32) (adn (by omega))) ?_
       refine lq rfl (aH rfl rfl)<|aI<|aB ?_
       exact⟨rfl,rfl,_,by
        first
        | exact .inl ⟨jh,by omega,by have ha:=k3 (k4 jh);omega⟩
        | (refine .inr ⟨fun h=>?_,rfl⟩;first | omega | (rw[h.1]at jh;cases jh)),rfl,rfl,rfl,rfl,rfl,rfl,rfl,trivial⟩
      ·refine L.skip<|aB ?_
       exact⟨rfl,rfl,_,by
        first
        | exact .inl ⟨jh,by omega,by have ha:=k3 (k4 jh);omega⟩
        | (refine .inr ⟨fun h=>?_,rfl⟩;first | omega | (rw[h.1]at jh;cases jh)),rfl,rfl,rfl,rfl,rfl,rfl,rfl,trivial⟩
     ·refine gY ?_
      refine gY ?_
      refine gY ?_
      refine lq rfl (dh rfl rfl rfl)<|aI<|aB ?_
      refine L.bZ ?_
      refine L.skip<|aB ?_
      exact⟨rfl,rfl,_,by
       first
       | exact .inl ⟨jh,by omega,by have ha:=k3 (k4 jh);omega⟩
       | (refine .inr ⟨fun h=>?_,rfl⟩;first | omega | (rw[h.1]at jh;cases jh)),rfl,rfl,rfl,rfl,rfl,rfl,rfl,trivial⟩
    ·rintro ρ' ds' s' ⟨rfl,rfl,u,hu,hsub⟩
     refine L.env hsub ?_
     refine L.cut (x:=⟨prog,false,aJ γ.toGrp,aX,bn.ntmps⟩) (fun ρ' ds' s'=>ds'=[]∧s'=(LS.mu (rl aw) (some st) B 1 0:LS)∧∃nw:Nat,LkF st sv aw nw∧nw<600∧Sub [(0,.pointer (some ⟨γ.Mu,0,none⟩)),(2,.int .i64 ws),(3,.bool sv),(4,.bool aw),(5,.int .i64 (it:Int)),(6,.int .i32 (st:Int)),(7,.int .i32 (nw:Int))] ρ') ?_ ?_
     ·refine L.seq<|L.region rfl<|lq rfl (aj rfl rfl)<|aI<|aB ?_
      refine L.cond rfl (fun Z4=>?_) (fun Z4=>?_)
      ·refine L.seq<|L.seq<|L.region rfl<|lq rfl (aj rfl rfl) ?_
       have ha:=k3 Z4
       refine iy rfl (jI rfl rfl rfl) (congrArg (Value.int .i32) (mu2 (by omega))) ?_
       refine iy (u:=.bool false) rfl (kF rfl rfl rfl) (congrArg Value.bool (decide_eq_false (by omega))) ?_
       refine aI<|aB ?_
       refine L.bZ ?_
       refine L.skip<|aB<|L.region rfl<|lq rfl (aj rfl rfl) ?_
       refine iy rfl (PN rfl rfl rfl) (congrArg (Value.int .i32) (ado (by omega))) ?_
       refine lq rfl (aH rfl rfl)<|aI<|aB ?_
       exact⟨rfl,rfl,_,by
        rw[LkF]
        cases aw <;>cases sv <;>simp only[cond_true,cond_false,Bool.false_eq_true,reduceCtorEq,forall_const,false_implies,true_and,false_and,not_false_eq_true,or_false,false_or]at* <;>omega,by omega,rfl,rfl,rfl,rfl,rfl,rfl,rfl,trivial⟩
      ·refine L.skip<|aB ?_
       exact⟨rfl,rfl,_,by
        rw[LkF]
        cases aw <;>cases sv <;>simp only[cond_true,cond_false,Bool.false_eq_true,reduceCtorEq,forall_const,false_implies,true_and,false_and,not_false_eq_true,or_false,false_or]at* <;>omega,by omega,rfl,rfl,rfl,rfl,rfl,rfl,rfl,trivial⟩
     ·rintro ρ' ds' s' ⟨rfl,rfl,nw,hnw,hnl,hsub⟩
      refine L.env hsub ?_
      refine L.seq<|L.region rfl<|lq rfl (aj rfl rfl)<|lq rfl (aK rfl rfl)<|lq rfl (aF rfl rfl)<|lq rfl (aj rfl rfl)<|lq rfl (aj rfl rfl) ?_
      refine XL (o:=st) (nw:=nw) (r':=ZY st) hm rfl rfl ⟨hm,Nat.one_pos,by decide,hnw.ok k3,.inl rfl⟩ ?_ ?_
      ·refine aI<|aB ?_
       refine L.dW ?_
       refine L.seq<|L.seq<|L.region rfl<|lq rfl (aj rfl rfl) ?_
       refine iy rfl (jI rfl rfl rfl) (congrArg (Value.int .i32) (mu5 (by omega))) ?_
       refine lq rfl (kF rfl rfl rfl) ?_
       refine aI<|aB ?_
       refine L.bC rfl (fun c83=>?_) (fun c83=>?_)
       ·refine L.qc (s':=.mu .hold none B 1 0) (by rw[ZY,if_pos (by omega)]) ?_
        refine L.exit<|qB<|PZ<|qB<|Di<|aB ?_
        refine L.dW ?_
        refine L.seq<|L.region rfl ?_
        refine F6 (s':=_) rfl (show 0<1 from Nat.one_pos) (fun x s'' h=>h) ?_
        refine aI<|aB<|L.region rfl<|lq rfl (aj rfl rfl) ?_
        refine RU (LA.non:LA) rfl rfl (by kernel_rfl) (by simp[eX,aJ]) (fun y h=>h) (by simp[rH,aJ]) (by simp[aJ]) (fun w y h1 h2=>?_)
        refine⟨⟨_,(Ib hm h1).1⟩,rfl,rfl,fun s' hn=>?_⟩
        obtain rfl:s'=_:=hn
        refine lx (vs:=[_]) (LA.acq:LA) rfl rfl ⟨hm,rfl,rfl,rfl⟩ (fun y h=>h) (fun w y h1 h2=>⟨_,fB (mk:=.acquire) (by simp) rfl,fun s' hn=>?_⟩) (by simp[aJ])
        obtain rfl:s'=_:=hn
        refine aI ?_
        exact bM (vs:=[]) ⟨rfl,_,_,rfl⟩
       ·refine L.qc (s':=.mu .AP none B 1 0) (by rw[ZY,if_neg (by omega)]) ?_
        refine L.skip<|aB<|L.seq<|L.region rfl<|lq rfl (aj rfl rfl) ?_
        refine lq rfl (jH rfl rfl rfl) ?_
        refine lq rfl (aH rfl rfl)<|aI<|aB ?_
        refine L.cut (x:=⟨prog,false,aJ γ.toGrp,aX,bn.ntmps⟩) (fun ρ' ds' s'=>ds'=[]∧s'=(LS.mu .AP none B 1 0:LS)∧∃(ws:Int) (b8:Bool),Sub [(0,.pointer (some ⟨γ.Mu,0,none⟩)),(2,.int .i64 ws),(3,.bool sv),(8,.bool b8)] ρ') ?_ ?_
        ·refine L.seq<|L.region rfl<|lq rfl (aj rfl rfl) ?_
         refine lq rfl (kF rfl rfl rfl) ?_
         refine aI<|aB ?_
         refine L.bC rfl (fun c87=>?_) (fun c87=>?_)
         ·refine L.region rfl ?_
          refine Ug (LA.clk:LA) rfl (by rw[dP];exact nT) (vs:=[]) rfl trivial (fun y h=>h) (by simp[rH,aJ]) (by simp[aJ]) (fun w y h1 h2=>⟨rfl,rfl,fun s' hn t=>?_⟩)
          obtain rfl:s'=_:=hn
          refine lq rfl (aH rfl rfl)<|aI<|aB ?_
          exact⟨rfl,rfl,_,_,rfl,rfl,rfl,rfl,trivial⟩
         ·refine L.skip<|aB ?_
          exact⟨rfl,rfl,_,_,rfl,rfl,rfl,rfl,trivial⟩
        ·rintro ρ' ds' s' ⟨rfl,rfl,ws,b8,hsub⟩
         refine L.env hsub ?_
         refine L.seq<|L.region rfl<|lq rfl (aj rfl rfl)<|lq rfl (aK rfl rfl)<|lq rfl (aF rfl rfl)<|lq rfl (aj rfl rfl) ?_
         refine lxb (vs:=[_,_,_]) (LA.Hf:LA) rfl rfl ⟨hm,Nat.one_pos,by decide,rfl,rfl⟩ (fun w y h1 h2 h3=>?_) (fun w y h1 h2 h3=>⟨.tuple #[],?_,fun s' hn=>?_⟩) (by simp[aJ])
         ·obtain⟨-,-,c3,-⟩:=Ib hm h1
          rw[show y.m.ms=0 from h3]at c3
          exact Jt rfl c3
         ·obtain⟨-,-,c3,c4⟩:=Ib hm h1
          have h3:¬y.m.ms=0:=h3
          have:=NM (P:=prog) (f:=dK) (args:= #[.pointer (some ⟨γ.Mu,1,none⟩),.bool b8,.int .i64 2]) rfl c3 (by omega) c4
          rw[show(y.m.ms:Int)-1=((y.m.ms-1:Nat):Int) by omega]at this
          exact this
         obtain rfl:s'= .mu .tok none B 1 0:=hn
         refine aI<|aB ?_
         refine L.cut (x:=⟨prog,false,aJ γ.toGrp,aX,bn.ntmps⟩) (fun ρ' ds' s'=>ds'=[]∧s'=(LS.mu .tok none B 1 0:LS)∧∃(sv:Bool),Sub [(0,.pointer (some ⟨γ.Mu,0,none⟩)),(2,.int .i64 ws),(3,.bool sv)] ρ') ?_ ?_
         ·refine L.region rfl<|lq rfl (aj rfl rfl)<|lq rfl (aj rfl rfl) ?_
          refine LO.RV (fun XM=>?_) (fun XM=>?_)
          ·refine gY ?_
           refine gY ?_
           refine gY ?_
           refine gY ?_
           refine lq rfl (eP rfl rfl rfl)<|lq rfl (aH rfl rfl)<|aI<|aB ?_
           exact⟨rfl,rfl,_,rfl,rfl,rfl,trivial⟩
          ·refine Ug (LA.clk:LA) rfl (by rw[dP];exact nT) (vs:=[]) rfl trivial (fun y h=>h) (by simp[rH,aJ]) (by simp[aJ]) (fun w y h1 h2=>⟨rfl,rfl,fun s' hn t=>?_⟩)
           obtain rfl:s'=_:=hn
           refine lq rfl (aj rfl rfl) ?_
           refine lq rfl (wW rfl rfl rfl) ?_
           refine lq rfl (Ea rfl rfl rfl) ?_
           refine lq rfl (dh rfl rfl rfl)<|lq rfl (aH rfl rfl)<|aI<|aB ?_
           exact⟨rfl,rfl,_,rfl,rfl,rfl,trivial⟩
         ·rintro ρ' ds' s' ⟨rfl,rfl,sv,hsub⟩
          refine L.env hsub ?_
          refine L.seq<|L.region rfl<|lq rfl (aj rfl rfl)<|lq rfl (aK rfl rfl)<|lq rfl (aF rfl rfl) ?_
          refine yA hm hq rfl rfl (fun x hx=>?_)
          obtain⟨w1,w2,w3,w4,w5⟩:=hx.word
          have hE:x.E<B:=hx.2.2.2.2.1 rfl
          have ht:=hx.2.2.2.2.2.2.2.1 rfl
          refine lq rfl (aH rfl rfl)<|aI<|aB<|L.seq<|L.seq<|L.region rfl<|lq rfl (aj rfl rfl) ?_
          refine iy rfl (jI rfl rfl rfl) (congrArg (Value.int .i32) (mu4 (by omega))) ?_
          refine lq rfl (jH rfl rfl rfl) ?_
          refine aI<|aB ?_
          refine L.bC rfl (fun c107=>?_) (fun c107=>?_)
          ·obtain⟨t1,t2,t3⟩:=ht.2 (by omega)
           refine L.qc (s':=.mu .hnd (some x.m.st) x.E 1 0) (by rw[kE,if_pos (by omega)]) ?_
           refine L.seq<|L.seq<|L.region rfl<|lq rfl (aj rfl rfl) ?_
           refine iy (u:=.int .i32 0) rfl (jI rfl rfl rfl) (congrArg (Value.int .i32) ((mu3 (by omega)).trans (by omega))) ?_
           refine iy (u:=.bool false) rfl (jH rfl rfl rfl) rfl ?_
           refine lq rfl (aj rfl rfl)<|lq rfl (aj rfl rfl) ?_
           refine iy rfl (Eb rfl rfl rfl (by decide)) (congrArg (Value.int .i32) (Vh (by omega))) ?_
           refine iy (u:=.bool false) rfl (kF rfl rfl rfl) (congrArg Value.bool (decide_eq_false (by omega))) ?_
           refine lq rfl (dh rfl rfl rfl)<|aI<|aB ?_
           refine L.bZ ?_
           refine L.skip<|aB<|L.seq<|L.region rfl<|lq rfl (aH rfl rfl)<|aI<|aB<|L.seq<|L.seq<|L.region rfl ?_
           refine lq rfl (aj rfl rfl) ?_
           refine lq rfl (XA rfl rfl) ?_
           refine lq rfl (aj rfl rfl) ?_
           refine LO.RV (fun XO=>?_) (fun XO=>?_)
           ·refine gY ?_
            refine gY ?_
            refine gY ?_
            refine lq rfl (eP rfl rfl rfl)<|aI<|aB ?_
            refine L.dW ?_
            refine L.region rfl<|lq rfl (aj rfl rfl) ?_
            refine iy (u:=.int .i32 (-11)) rfl (wW rfl rfl rfl) (by kernel_rfl) ?_
            refine lq rfl (aH rfl rfl)<|aI<|aB<|L.seq<|L.region rfl<|lq rfl (aj rfl rfl)<|lq rfl (aK rfl rfl)<|lq rfl (aF rfl rfl)<|lq rfl (aj rfl rfl) ?_
            first
            | refine lx (vs:=[_,.int .i32 (-11)]) (LA.uz false:LA) rfl rfl ⟨hm,Nat.one_pos,by decide,rfl,_,rfl,(fun h=>by cases h)⟩ (fun y h=>h) (fun w y h1 h2=>⟨.int .i32 ((y.m.st-11:Nat):Int),?_,fun s' hn=>?_⟩) (by simp[aJ])
            | refine lx (vs:=[_,.int .i32 (-7)]) (LA.uz true:LA) rfl rfl ⟨hm,Nat.one_pos,by decide,rfl,_,rfl,fun _=>by omega⟩ (fun y h=>h) (fun w y h1 h2=>⟨.int .i32 ((y.m.st-7:Nat):Int),?_,fun s' hn=>?_⟩) (by simp[aJ])
            ·obtain⟨c1,c2,-,-⟩:=Ib hm h1
             have h2:MF .hnd (some x.m.st) x.E y:=h2
             obtain⟨q1,q2,q3,q4,q5⟩:=h2.word
             obtain⟨p1,p2,p3,p4,-⟩:=h2.2.2.2.2.2.2.2.2 rfl
             first
             | (have:=nK (P:=prog) (f:=aW) (d:= -11) c1 c2;rw[wrap32 (by omega) (by omega),show(y.m.st:Int)+ -11=((y.m.st-11:Nat):Int) by omega]at this;exact this)
             | (have:=nK (P:=prog) (f:=aW) (d:= -7) c1 c2;rw[wrap32 (by omega) (by omega),show(y.m.st:Int)+ -7=((y.m.st-7:Nat):Int) by omega]at this;exact this)
            obtain rfl:s'= .mu .hold none y.E 1 0:=hn
            refine aI<|aB<|L.exit<|qB<|PZ<|qB<|Di<|aB ?_
            refine L.dW ?_
            refine L.seq<|L.region rfl ?_
            refine F6 (s':=_) rfl (show 0<1 from Nat.one_pos) (fun x s'' h=>h) ?_
            refine aI<|aB<|L.region rfl<|lq rfl (aj rfl rfl) ?_
            refine RU (LA.non:LA) rfl rfl (by kernel_rfl) (by simp[eX,aJ]) (fun y h=>h) (by simp[rH,aJ]) (by simp[aJ]) (fun w y h1 h2=>?_)
            refine⟨⟨_,(Ib hm h1).1⟩,rfl,rfl,fun s' hn=>?_⟩
            obtain rfl:s'=_:=hn
            refine lx (vs:=[_]) (LA.acq:LA) rfl rfl ⟨hm,rfl,rfl,rfl⟩ (fun y h=>h) (fun w y h1 h2=>⟨_,fB (mk:=.acquire) (by simp) rfl,fun s' hn=>?_⟩) (by simp[aJ])
            obtain rfl:s'=_:=hn
            refine aI ?_
            exact bM (vs:=[]) ⟨rfl,_,_,rfl⟩
           ·refine lq rfl (aj rfl rfl) ?_
            refine iy rfl (Eb rfl rfl rfl (by decide)) (congrArg (Value.int .i32) (Vh (by omega))) ?_
            refine lq rfl (kF rfl rfl rfl) ?_
            refine lq rfl (dh rfl rfl rfl)<|aI<|aB ?_
            refine L.bC rfl (fun abP=>?_) (fun abP=>?_)
            ·refine L.region rfl<|lq rfl (aj rfl rfl) ?_
             refine iy (u:=.int .i32 (-11)) rfl (wW rfl rfl rfl) (by kernel_rfl) ?_
             refine lq rfl (aH rfl rfl)<|aI<|aB<|L.seq<|L.region rfl<|lq rfl (aj rfl rfl)<|lq rfl (aK rfl rfl)<|lq rfl (aF rfl rfl)<|lq rfl (aj rfl rfl) ?_
             first
             | refine lx (vs:=[_,.int .i32 (-11)]) (LA.uz false:LA) rfl rfl ⟨hm,Nat.one_pos,by decide,rfl,_,rfl,(fun h=>by cases h)⟩ (fun y h=>h) (fun w y h1 h2=>⟨.int .i32 ((y.m.st-11:Nat):Int),?_,fun s' hn=>?_⟩) (by simp[aJ])
             | refine lx (vs:=[_,.int .i32 (-7)]) (LA.uz true:LA) rfl rfl ⟨hm,Nat.one_pos,by decide,rfl,_,rfl,fun _=>by omega⟩ (fun y h=>h) (fun w y h1 h2=>⟨.int .i32 ((y.m.st-7:Nat):Int),?_,fun s' hn=>?_⟩) (by simp[aJ])
             ·obtain⟨c1,c2,-,-⟩:=Ib hm h1
              have h2:MF .hnd (some x.m.st) x.E y:=h2
              obtain⟨q1,q2,q3,q4,q5⟩:=h2.word
              obtain⟨p1,p2,p3,p4,-⟩:=h2.2.2.2.2.2.2.2.2 rfl
              first
              | (have:=nK (P:=prog) (f:=aW) (d:= -11) c1 c2;rw[wrap32 (by omega) (by omega),show(y.m.st:Int)+ -11=((y.m.st-11:Nat):Int) by omega]at this;exact this)
              | (have:=nK (P:=prog) (f:=aW) (d:= -7) c1 c2;rw[wrap32 (by omega) (by omega),show(y.m.st:Int)+ -7=((y.m.st-7:Nat):Int) by omega]at this;exact this)
             obtain rfl:s'= .mu .hold none y.E 1 0:=hn
             refine aI<|aB<|L.exit<|qB<|PZ<|qB<|Di<|aB ?_
             refine L.dW ?_
             refine L.seq<|L.region rfl ?_
             refine F6 (s':=_) rfl (show 0<1 from Nat.one_pos) (fun x s'' h=>h) ?_
             refine aI<|aB<|L.region rfl<|lq rfl (aj rfl rfl) ?_
             refine RU (LA.non:LA) rfl rfl (by kernel_rfl) (by simp[eX,aJ]) (fun y h=>h) (by simp[rH,aJ]) (by simp[aJ]) (fun w y h1 h2=>?_)
             refine⟨⟨_,(Ib hm h1).1⟩,rfl,rfl,fun s' hn=>?_⟩
             obtain rfl:s'=_:=hn
             refine lx (vs:=[_]) (LA.acq:LA) rfl rfl ⟨hm,rfl,rfl,rfl⟩ (fun y h=>h) (fun w y h1 h2=>⟨_,fB (mk:=.acquire) (by simp) rfl,fun s' hn=>?_⟩) (by simp[aJ])
             obtain rfl:s'=_:=hn
             refine aI ?_
             exact bM (vs:=[]) ⟨rfl,_,_,rfl⟩
            ·refine L.skip<|aB<|L.seq<|L.region rfl<|lq rfl (aj rfl rfl)<|lq rfl (aK rfl rfl)<|lq rfl (aF rfl rfl)<|lq rfl (aj rfl rfl) ?_
             first
             | refine lx (vs:=[_,.int .i32 (-11)]) (LA.uz false:LA) rfl rfl ⟨hm,Nat.one_pos,by decide,rfl,_,rfl,(fun h=>by cases h)⟩ (fun y h=>h) (fun w y h1 h2=>⟨.int .i32 ((y.m.st-11:Nat):Int),?_,fun s' hn=>?_⟩) (by simp[aJ])
             | refine lx (vs:=[_,.int .i32 (-7)]) (LA.uz true:LA) rfl rfl ⟨hm,Nat.one_pos,by decide,rfl,_,rfl,fun _=>by omega⟩ (fun y h=>h) (fun w y h1 h2=>⟨.int .i32 ((y.m.st-7:Nat):Int),?_,fun s' hn=>?_⟩) (by simp[aJ])
             ·obtain⟨c1,c2,-,-⟩:=Ib hm h1
              have h2:MF .hnd (some x.m.st) x.E y:=h2
              obtain⟨q1,q2,q3,q4,q5⟩:=h2.word
              obtain⟨p1,p2,p3,p4,-⟩:=h2.2.2.2.2.2.2.2.2 rfl
              first
              | (have:=nK (P:=prog) (f:=aW) (d:= -11) c1 c2;rw[wrap32 (by omega) (by omega),show(y.m.st:Int)+ -11=((y.m.st-11:Nat):Int) by omega]at this;exact this)
              | (have:=nK (P:=prog) (f:=aW) (d:= -7) c1 c2;rw[wrap32 (by omega) (by omega),show(y.m.st:Int)+ -7=((y.m.st-7:Nat):Int) by omega]at this;exact this)
             obtain rfl:s'= .mu .hold none y.E 1 0:=hn
             refine aI<|aB<|L.exit<|qB<|PZ<|qB<|Di<|aB ?_
             refine L.dW ?_
             refine L.seq<|L.region rfl ?_
             refine F6 (s':=_) rfl (show 0<1 from Nat.one_pos) (fun x s'' h=>h) ?_
             refine aI<|aB<|L.region rfl<|lq rfl (aj rfl rfl) ?_
             refine RU (LA.non:LA) rfl rfl (by kernel_rfl) (by simp[eX,aJ]) (fun y h=>h) (by simp[rH,aJ]) (by simp[aJ]) (fun w y h1 h2=>?_)
             refine⟨⟨_,(Ib hm h1).1⟩,rfl,rfl,fun s' hn=>?_⟩
             obtain rfl:s'=_:=hn
             refine lx (vs:=[_]) (LA.acq:LA) rfl rfl ⟨hm,rfl,rfl,rfl⟩ (fun y h=>h) (fun w y h1 h2=>⟨_,fB (mk:=.acquire) (by simp) rfl,fun s' hn=>?_⟩) (by simp[aJ])
             obtain rfl:s'=_:=hn
             refine aI ?_
             exact bM (vs:=[]) ⟨rfl,_,_,rfl⟩
          ·refine L.qc (s':=.mu .FD (some x.m.st) x.E 1 0) (by rw[kE,if_neg (by omega)]) ?_
           refine L.skip<|aB<|L.seq<|L.region rfl<|lq rfl (aH rfl rfl)<|aI<|aB<|L.region rfl<|lq rfl (aH rfl rfl)<|aI ?_
           refine PY<|aB ?_
           have ht1:=ht.1 (by omega)
           exact⟨rfl,⟨ws,sv,true,0,x.m.st,x.E⟩,⟨by simp,w1,fun _=>⟨by simp only;omega,by simp only;omega⟩,fun _=>rfl⟩,by simp only;omega,⟨rfl,rfl,rfl,rfl,rfl,rfl,trivial⟩,rfl⟩
      ·refine aI<|aB ?_
       refine L.bZ ?_
       refine L.region rfl<|lq rfl (aj rfl rfl)<|lq rfl (aK rfl rfl)<|lq rfl (aF rfl rfl) ?_
       refine yA hm hq rfl rfl (fun x hx=>?_)
       obtain⟨w1,w2,w3,w4,w5⟩:=hx.word
       have hE:x.E<B:=hx.2.2.2.2.1 rfl
       refine lq rfl (aH rfl rfl)<|aI<|PY<|aB ?_
       exact⟨rfl,⟨ws,sv,aw,it,x.m.st,x.E⟩,⟨k1,w1,fun ha=>MF.rl hx ha,k4⟩,by simp only;omega,⟨rfl,rfl,rfl,rfl,rfl,rfl,trivial⟩,by rw[wu];try rfl⟩
  ·refine L.skip<|aB ?_
   refine L.cut (x:=⟨prog,false,aJ γ.toGrp,aX,bn.ntmps⟩) (fun ρ' ds' s'=>ds'=[]∧s'=(LS.mu (rl aw) (some st) B 1 0:LS)∧∃v:Nat,((st % 2=0∧st / 4 % 2=0∧v=st+1)∨((st % 2=1∨st / 4 % 2=1)∧v=st+8))∧Sub [(0,.pointer (some ⟨γ.Mu,0,none⟩)),(2,.int .i64 ws),(3,.bool sv),(4,.bool aw),(5,.int .i64 (it:Int)),(6,.int .i32 (st:Int)),(7,.int .i32 (v:Int))] ρ') ?_ ?_
   ·refine L.seq<|L.region rfl<|lq rfl (aj rfl rfl) ?_
    refine iy rfl (jI rfl rfl rfl) (congrArg (Value.int .i32) (mu5 (by omega))) ?_
    refine lq rfl (jH rfl rfl rfl) ?_
    refine aI<|aB ?_
    refine L.bC rfl (fun c57=>?_) (fun c57=>?_)
    ·refine L.region rfl<|lq rfl (aj rfl rfl) ?_
     first
     | refine iy (u:=.int .i32 ((st+(1-st % 2)+8:Nat):Int)) rfl (rU rfl rfl rfl) (congrArg (Value.int .i32) (by rw[wrap32 (by omega) (by omega)];omega)) ?_
     | refine iy (u:=.int .i32 ((st+8:Nat):Int)) rfl (rU rfl rfl rfl) (congrArg (Value.int .i32) (by rw[wrap32 (by omega) (by omega)];omega)) ?_
     refine lq rfl (aH rfl rfl)<|aI<|aB ?_
     exact⟨rfl,rfl,_,by omega,rfl,rfl,rfl,rfl,rfl,rfl,rfl,trivial⟩
    ·refine L.skip<|aB ?_
     exact⟨rfl,rfl,_,by omega,rfl,rfl,rfl,rfl,rfl,rfl,rfl,trivial⟩
   ·rintro ρ' ds' s' ⟨rfl,rfl,v,hv,hsub⟩
    refine L.env hsub ?_
    refine L.cut (x:=⟨prog,false,aJ γ.toGrp,aX,bn.ntmps⟩) (fun ρ' ds' s'=>ds'=[]∧s'=(LS.mu (rl aw) (some st) B 1 0:LS)∧∃u:Nat,((sv=true∧st % 2=1∧u=v+4)∨(¬(sv=true∧st % 2=1)∧u=v))∧Sub [(0,.pointer (some ⟨γ.Mu,0,none⟩)),(2,.int .i64 ws),(3,.bool sv),(4,.bool aw),(5,.int .i64 (it:Int)),(6,.int .i32 (st:Int)),(7,.int .i32 (u:Int))] ρ') ?_ ?_
    ·refine L.seq<|L.region rfl<|lq rfl (aj rfl rfl)<|lq rfl (aj rfl rfl) ?_
     refine LO.RV (fun jh=>?_) (fun jh=>?_)
     ·refine lq rfl (aj rfl rfl) ?_
      refine iy rfl (jI rfl rfl rfl) (congrArg (Value.int .i32) (mu1 (by omega))) ?_
      refine lq rfl (jH rfl rfl rfl) ?_
      refine lq rfl (eP rfl rfl rfl)<|aI<|aB ?_
      refine L.bC rfl (fun c65=>?_) (fun c65=>?_)
      ·refine L.region rfl<|lq rfl (aj rfl rfl) ?_
       refine iy rfl (XB rfl rfl rfl) (congrArg (Value.int .i32) (adn (by omega))) ?_
       refine lq rfl (aH rfl rfl)<|aI<|aB ?_
       exact⟨rfl,rfl,_,by
        first
        | exact .inl ⟨jh,by omega,by have ha:=k3 (k4 jh);omega⟩
        | (refine .inr ⟨fun h=>?_,rfl⟩;first | omega | (rw[h.1]at jh;cases jh)),rfl,rfl,rfl,rfl,rfl,rfl,rfl,trivial⟩
      ·refine L.skip<|aB ?_
       exact⟨rfl,rfl,_,by
        first
        | exact .inl ⟨jh,by omega,by have ha:=k3 (k4 jh);omega⟩
        | (refine .inr ⟨fun h=>?_,rfl⟩;first | omega | (rw[h.1]at jh;cases jh)),rfl,rfl,rfl,rfl,rfl,rfl,rfl,trivial⟩
     ·refine gY ?_
      refine gY ?_
      refine gY ?_
      refine lq rfl (dh rfl rfl rfl)<|aI<|aB ?_
      refine L.bZ ?_
      refine L.skip<|aB ?_
      exact⟨rfl,rfl,_,by
       first
       | exact .inl ⟨jh,by omega,by have ha:=k3 (k4 jh);omega⟩
       | (refine .inr ⟨fun h=>?_,rfl⟩;first | omega | (rw[h.1]at jh;cases jh)),rfl,rfl,rfl,rfl,rfl,rfl,rfl,trivial⟩
    ·rintro ρ' ds' s' ⟨rfl,rfl,u,hu,hsub⟩
     refine L.env hsub ?_
     refine L.cut (x:=⟨prog,false,aJ γ.toGrp,aX,bn.ntmps⟩) (fun ρ' ds' s'=>ds'=[]∧s'=(LS.mu (rl aw) (some st) B 1 0:LS)∧∃nw:Nat,LkF st sv aw nw∧nw<600∧Sub [(0,.pointer (some ⟨γ.Mu,0,none⟩)),(2,.int .i64 ws),(3,.bool sv),(4,.bool aw),(5,.int .i64 (it:Int)),(6,.int .i32 (st:Int)),(7,.int .i32 (nw:Int))] ρ') ?_ ?_
     ·refine L.seq<|L.region rfl<|lq rfl (aj rfl rfl)<|aI<|aB ?_
      refine L.cond rfl (fun Z4=>?_) (fun Z4=>?_)
      ·refine L.seq<|L.seq<|L.region rfl<|lq rfl (aj rfl rfl) ?_
       have ha:=k3 Z4
       refine iy rfl (jI rfl rfl rfl) (congrArg (Value.int .i32) (mu2 (by omega))) ?_
       refine iy (u:=.bool false) rfl (kF rfl rfl rfl) (congrArg Value.bool (decide_eq_false (by omega))) ?_
       refine aI<|aB ?_
       refine L.bZ ?_
       refine L.skip<|aB<|L.region rfl<|lq rfl (aj rfl rfl) ?_
       refine iy rfl (PN rfl rfl rfl) (congrArg (Value.int .i32) (ado (by omega))) ?_
       refine lq rfl (aH rfl rfl)<|aI<|aB ?_
       exact⟨rfl,rfl,_,by
        rw[LkF]
        cases aw <;>cases sv <;>simp only[cond_true,cond_false,Bool.false_eq_true,reduceCtorEq,forall_const,false_implies,true_and,false_and,not_false_eq_true,or_false,false_or]at* <;>omega,by omega,rfl,rfl,rfl,rfl,rfl,rfl,rfl,trivial⟩
      ·refine L.skip<|aB ?_
       exact⟨rfl,rfl,_,by
        rw[LkF]
        cases aw <;>cases sv <;>simp only[cond_true,cond_false,Bool.false_eq_true,reduceCtorEq,forall_const,false_implies,true_and,false_and,not_false_eq_true,or_false,false_or]at* <;>omega,by omega,rfl,rfl,rfl,rfl,rfl,rfl,rfl,trivial⟩
     ·rintro ρ' ds' s' ⟨rfl,rfl,nw,hnw,hnl,hsub⟩
      refine L.env hsub ?_
      refine L.seq<|L.region rfl<|lq rfl (aj rfl rfl)<|lq rfl (aK rfl rfl)<|lq rfl (aF rfl rfl)<|lq rfl (aj rfl rfl)<|lq rfl (aj rfl rfl) ?_
      refine XL (o:=st) (nw:=nw) (r':=ZY st) hm rfl rfl ⟨hm,Nat.one_pos,by decide,hnw.ok k3,.inl rfl⟩ ?_ ?_
      ·refine aI<|aB ?_
       refine L.dW ?_
       refine L.seq<|L.seq<|L.region rfl<|lq rfl (aj rfl rfl) ?_
       refine iy rfl (jI rfl rfl rfl) (congrArg (Value.int .i32) (mu5 (by omega))) ?_
       refine lq rfl (kF rfl rfl rfl) ?_
       refine aI<|aB ?_
       refine L.bC rfl (fun c83=>?_) (fun c83=>?_)
       ·refine L.qc (s':=.mu .hold none B 1 0) (by rw[ZY,if_pos (by omega)]) ?_
        refine L.exit<|qB<|PZ<|qB<|Di<|aB ?_
        refine L.dW ?_
        refine L.seq<|L.region rfl ?_
        refine F6 (s':=_) rfl (show 0<1 from Nat.one_pos) (fun x s'' h=>h) ?_
        refine aI<|aB<|L.region rfl<|lq rfl (aj rfl rfl) ?_
        refine RU (LA.non:LA) rfl rfl (by kernel_rfl) (by simp[eX,aJ]) (fun y h=>h) (by simp[rH,aJ]) (by simp[aJ]) (fun w y h1 h2=>?_)
        refine⟨⟨_,(Ib hm h1).1⟩,rfl,rfl,fun s' hn=>?_⟩
        obtain rfl:s'=_:=hn
        refine lx (vs:=[_]) (LA.acq:LA) rfl rfl ⟨hm,rfl,rfl,rfl⟩ (fun y h=>h) (fun w y h1 h2=>⟨_,fB (mk:=.acquire) (by simp) rfl,fun s' hn=>?_⟩) (by simp[aJ])
        obtain rfl:s'=_:=hn
        refine aI ?_
        exact bM (vs:=[]) ⟨rfl,_,_,rfl⟩
       ·refine L.qc (s':=.mu .AP none B 1 0) (by rw[ZY,if_neg (by omega)]) ?_
        refine L.skip<|aB<|L.seq<|L.region rfl<|lq rfl (aj rfl rfl) ?_
        refine lq rfl (jH rfl rfl rfl) ?_
        refine lq rfl (aH rfl rfl)<|aI<|aB ?_
        refine L.cut (x:=⟨prog,false,aJ γ.toGrp,aX,bn.ntmps⟩) (fun ρ' ds' s'=>ds'=[]∧s'=(LS.mu .AP none B 1 0:LS)∧∃(ws:Int) (b8:Bool),Sub [(0,.pointer (some ⟨γ.Mu,0,none⟩)),(2,.int .i64 ws),(3,.bool sv),(8,.bool b8)] ρ') ?_ ?_
        ·refine L.seq<|L.region rfl<|lq rfl (aj rfl rfl) ?_
         refine lq rfl (kF rfl rfl rfl) ?_
         refine aI<|aB ?_
         refine L.bC rfl (fun c87=>?_) (fun c87=>?_)
         ·refine L.region rfl ?_
          refine Ug (LA.clk:LA) rfl (by rw[dP];exact nT) (vs:=[]) rfl trivial (fun y h=>h) (by simp[rH,aJ]) (by simp[aJ]) (fun w y h1 h2=>⟨rfl,rfl,fun s' hn t=>?_⟩)
          obtain rfl:s'=_:=hn
          refine lq rfl (aH rfl rfl)<|aI<|aB ?_
          exact⟨rfl,rfl,_,_,rfl,rfl,rfl,rfl,trivial⟩
         ·refine L.skip<|aB ?_
          exact⟨rfl,rfl,_,_,rfl,rfl,rfl,rfl,trivial⟩
        ·rintro ρ' ds' s' ⟨rfl,rfl,ws,b8,hsub⟩
         refine L.env hsub ?_
         refine L.seq<|L.region rfl<|lq rfl (aj rfl rfl)<|lq rfl (aK rfl rfl)<|lq rfl (aF rfl rfl)<|lq rfl (aj rfl rfl) ?_
         refine lxb (vs:=[_,_,_]) (LA.Hf:LA) rfl rfl ⟨hm,Nat.one_pos,by decide,rfl,rfl⟩ (fun w y h1 h2 h3=>?_) (fun w y h1 h2 h3=>⟨.tuple #[],?_,fun s' hn=>?_⟩) (by simp[aJ])
         ·obtain⟨-,-,c3,-⟩:=Ib hm h1
          rw[show y.m.ms=0 from h3]at c3
          exact Jt rfl c3
         ·obtain⟨-,-,c3,c4⟩:=Ib hm h1
          have h3:¬y.m.ms=0:=h3
          have:=NM (P:=prog) (f:=dK) (args:= #[.pointer (some ⟨γ.Mu,1,none⟩),.bool b8,.int .i64 2]) rfl c3 (by omega) c4
          rw[show(y.m.ms:Int)-1=((y.m.ms-1:Nat):Int) by omega]at this
          exact this
         obtain rfl:s'= .mu .tok none B 1 0:=hn
         refine aI<|aB ?_
         refine L.cut (x:=⟨prog,false,aJ γ.toGrp,aX,bn.ntmps⟩) (fun ρ' ds' s'=>ds'=[]∧s'=(LS.mu .tok none B 1 0:LS)∧∃(sv:Bool),Sub [(0,.pointer (some ⟨γ.Mu,0,none⟩)),(2,.int .i64 ws),(3,.bool sv)] ρ') ?_ ?_
         ·refine L.region rfl<|lq rfl (aj rfl rfl)<|lq rfl (aj rfl rfl) ?_
          refine LO.RV (fun XM=>?_) (fun XM=>?_)
          ·refine gY ?_
           refine gY ?_
           refine gY ?_
           refine gY ?_
           refine lq rfl (eP rfl rfl rfl)<|lq rfl (aH rfl rfl)<|aI<|aB ?_
           exact⟨rfl,rfl,_,rfl,rfl,rfl,trivial⟩
          ·refine Ug (LA.clk:LA) rfl (by rw[dP];exact nT) (vs:=[]) rfl trivial (fun y h=>h) (by simp[rH,aJ]) (by simp[aJ]) (fun w y h1 h2=>⟨rfl,rfl,fun s' hn t=>?_⟩)
           obtain rfl:s'=_:=hn
           refine lq rfl (aj rfl rfl) ?_
           refine lq rfl (wW rfl rfl rfl) ?_
           refine lq rfl (Ea rfl rfl rfl) ?_
           refine lq rfl (dh rfl rfl rfl)<|lq rfl (aH rfl rfl)<|aI<|aB ?_
           exact⟨rfl,rfl,_,rfl,rfl,rfl,trivial⟩
         ·rintro ρ' ds' s' ⟨rfl,rfl,sv,hsub⟩
          refine L.env hsub ?_
          refine L.seq<|L.region rfl<|lq rfl (aj rfl rfl)<|lq rfl (aK rfl rfl)<|lq rfl (aF rfl rfl) ?_
          refine yA hm hq rfl rfl (fun x hx=>?_)
          obtain⟨w1,w2,w3,w4,w5⟩:=hx.word
          have hE:x.E<B:=hx.2.2.2.2.1 rfl
          have ht:=hx.2.2.2.2.2.2.2.1 rfl
          refine lq rfl (aH rfl rfl)<|aI<|aB<|L.seq<|L.seq<|L.region rfl<|lq rfl (aj rfl rfl) ?_
          refine iy rfl (jI rfl rfl rfl) (congrArg (Value.int .i32) (mu4 (by omega))) ?_
          refine lq rfl (jH rfl rfl rfl) ?_
          refine aI<|aB ?_
          refine L.bC rfl (fun c107=>?_) (fun c107=>?_)
          ·obtain⟨t1,t2,t3⟩:=ht.2 (by omega)
           refine L.qc (s':=.mu .hnd (some x.m.st) x.E 1 0) (by rw[kE,if_pos (by omega)]) ?_
           refine L.seq<|L.seq<|L.region rfl<|lq rfl (aj rfl rfl) ?_
           refine iy (u:=.int .i32 0) rfl (jI rfl rfl rfl) (congrArg (Value.int .i32) ((mu3 (by omega)).trans (by omega))) ?_
           refine iy (u:=.bool false) rfl (jH rfl rfl rfl) rfl ?_
           refine lq rfl (aj rfl rfl)<|lq rfl (aj rfl rfl) ?_
           refine iy rfl (Eb rfl rfl rfl (by decide)) (congrArg (Value.int .i32) (Vh (by omega))) ?_
           refine iy (u:=.bool false) rfl (kF rfl rfl rfl) (congrArg Value.bool (decide_eq_false (by omega))) ?_
           refine lq rfl (dh rfl rfl rfl)<|aI<|aB ?_
           refine L.bZ ?_
           refine L.skip<|aB<|L.seq<|L.region rfl<|lq rfl (aH rfl rfl)<|aI<|aB<|L.seq<|L.seq<|L.region rfl ?_
           refine lq rfl (aj rfl rfl) ?_
           refine lq rfl (XA rfl rfl) ?_
           refine lq rfl (aj rfl rfl) ?_
           refine LO.RV (fun XO=>?_) (fun XO=>?_)
           ·refine gY ?_
            refine gY ?_
            refine gY ?_
            refine lq rfl (eP rfl rfl rfl)<|aI<|aB ?_
            refine L.dW ?_
            refine L.region rfl<|lq rfl (aj rfl rfl) ?_
            refine iy (u:=.int .i32 (-11)) rfl (wW rfl rfl rfl) (by kernel_rfl) ?_
            refine lq rfl (aH rfl rfl)<|aI<|aB<|L.seq<|L.region rfl<|lq rfl (aj rfl rfl)<|lq rfl (aK rfl rfl)<|lq rfl (aF rfl rfl)<|lq rfl (aj rfl rfl) ?_
            first
            | refine lx (vs:=[_,.int .i32 (-11)]) (LA.uz false:LA) rfl rfl ⟨hm,Nat.one_pos,by decide,rfl,_,rfl,(fun h=>by cases h)⟩ (fun y h=>h) (fun w y h1 h2=>⟨.int .i32 ((y.m.st-11:Nat):Int),?_,fun s' hn=>?_⟩) (by simp[aJ])
            | refine lx (vs:=[_,.int .i32 (-7)]) (LA.uz true:LA) rfl rfl ⟨hm,Nat.one_pos,by decide,rfl,_,rfl,fun _=>by omega⟩ (fun y h=>h) (fun w y h1 h2=>⟨.int .i32 ((y.m.st-7:Nat):Int),?_,fun s' hn=>?_⟩) (by simp[aJ])
            ·obtain⟨c1,c2,-,-⟩:=Ib hm h1
             have h2:MF .hnd (some x.m.st) x.E y:=h2
             obtain⟨q1,q2,q3,q4,q5⟩:=h2.word
             obtain⟨p1,p2,p3,p4,-⟩:=h2.2.2.2.2.2.2.2.2 rfl
             first
             | (have:=nK (P:=prog) (f:=aW) (d:= -11) c1 c2;rw[wrap32 (by omega) (by omega),show(y.m.st:Int)+ -11=((y.m.st-11:Nat):Int) by omega]at this;exact this)
             | (have:=nK (P:=prog) (f:=aW) (d:= -7) c1 c2;rw[wrap32 (by omega) (by omega),show(y.m.st:Int)+ -7=((y.m.st-7:Nat):Int) by omega]at this;exact this)
            obtain rfl:s'= .mu .hold none y.E 1 0:=hn
            refine aI<|aB<|L.exit<|qB<|PZ<|qB<|Di<|aB ?_
            refine L.dW ?_
            refine L.seq<|L.region rfl ?_
            refine F6 (s':=_) rfl (show 0<1 from Nat.one_pos) (fun x s'' h=>h) ?_
            refine aI<|aB<|L.region rfl<|lq rfl (aj rfl rfl) ?_
            refine RU (LA.non:LA) rfl rfl (by kernel_rfl) (by simp[eX,aJ]) (fun y h=>h) (by simp[rH,aJ]) (by simp[aJ]) (fun w y h1 h2=>?_)
            refine⟨⟨_,(Ib hm h1).1⟩,rfl,rfl,fun s' hn=>?_⟩
            obtain rfl:s'=_:=hn
            refine lx (vs:=[_]) (LA.acq:LA) rfl rfl ⟨hm,rfl,rfl,rfl⟩ (fun y h=>h) (fun w y h1 h2=>⟨_,fB (mk:=.acquire) (by simp) rfl,fun s' hn=>?_⟩) (by simp[aJ])
            obtain rfl:s'=_:=hn
            refine aI ?_
            exact bM (vs:=[]) ⟨rfl,_,_,rfl⟩
           ·refine lq rfl (aj rfl rfl) ?_
            refine iy rfl (Eb rfl rfl rfl (by decide)) (congrArg (Value.int .i32) (Vh (by omega))) ?_
            refine lq rfl (kF rfl rfl rfl) ?_
            refine lq rfl (dh rfl rfl rfl)<|aI<|aB ?_
            refine L.bC rfl (fun abP=>?_) (fun abP=>?_)
            ·refine L.region rfl<|lq rfl (aj rfl rfl) ?_
             refine iy (u:=.int .i32 (-11)) rfl (wW rfl rfl rfl) (by kernel_rfl) ?_
             refine lq rfl (aH rfl rfl)<|aI<|aB<|L.seq<|L.region rfl<|lq rfl (aj rfl rfl)<|lq rfl (aK rfl rfl)<|lq rfl (aF rfl rfl)<|lq rfl (aj rfl rfl) ?_
             first
             | refine lx (vs:=[_,.int .i32 (-11)]) (LA.uz false:LA) rfl rfl ⟨hm,Nat.one_pos,by decide,rfl,_,rfl,(fun h=>by cases h)⟩ (fun y h=>h) (fun w y h1 h2=>⟨.int .i32 ((y.m.st-11:Nat):Int),?_,fun s' hn=>?_⟩) (by simp[aJ])
             | refine lx (vs:=[_,.int .i32 (-7)]) (LA.uz true:LA) rfl rfl ⟨hm,Nat.one_pos,by decide,rfl,_,rfl,fun _=>by omega⟩ (fun y h=>h) (fun w y h1 h2=>⟨.int .i32 ((y.m.st-7:Nat):Int),?_,fun s' hn=>?_⟩) (by simp[aJ])
             ·obtain⟨c1,c2,-,-⟩:=Ib hm h1
              have h2:MF .hnd (some x.m.st) x.E y:=h2
              obtain⟨q1,q2,q3,q4,q5⟩:=h2.word
              obtain⟨p1,p2,p3,p4,-⟩:=h2.2.2.2.2.2.2.2.2 rfl
              first
              | (have:=nK (P:=prog) (f:=aW) (d:= -11) c1 c2;rw[wrap32 (by omega) (by omega),show(y.m.st:Int)+ -11=((y.m.st-11:Nat):Int) by omega]at this;exact this)
              | (have:=nK (P:=prog) (f:=aW) (d:= -7) c1 c2;rw[wrap32 (by omega) (by omega),show(y.m.st:Int)+ -7=((y.m.st-7:Nat):Int) by omega]at this;exact this)
             obtain rfl:s'= .mu .hold none y.E 1 0:=hn
             refine aI<|aB<|L.exit<|qB<|PZ<|qB<|Di<|aB ?_
             refine L.dW ?_
             refine L.seq<|L.region rfl ?_
             refine F6 (s':=_) rfl (show 0<1 from Nat.one_pos) (fun x s'' h=>h) ?_
             refine aI<|aB<|L.region rfl<|lq rfl (aj rfl rfl) ?_
             refine RU (LA.non:LA) rfl rfl (by kernel_rfl) (by simp[eX,aJ]) (fun y h=>h) (by simp[rH,aJ]) (by simp[aJ]) (fun w y h1 h2=>?_)
             refine⟨⟨_,(Ib hm h1).1⟩,rfl,rfl,fun s' hn=>?_⟩
             obtain rfl:s'=_:=hn
             refine lx (vs:=[_]) (LA.acq:LA) rfl rfl ⟨hm,rfl,rfl,rfl⟩ (fun y h=>h) (fun w y h1 h2=>⟨_,fB (mk:=.acquire) (by simp) rfl,fun s' hn=>?_⟩) (by simp[aJ])
             obtain rfl:s'=_:=hn
             refine aI ?_
             exact bM (vs:=[]) ⟨rfl,_,_,rfl⟩
            ·refine L.skip<|aB<|L.seq<|L.region rfl<|lq rfl (aj rfl rfl)<|lq rfl (aK rfl rfl)<|lq rfl (aF rfl rfl)<|lq rfl (aj rfl rfl) ?_
             first
             | refine lx (vs:=[_,.int .i32 (-11)]) (LA.uz false:LA) rfl rfl ⟨hm,Nat.one_pos,by decide,rfl,_,rfl,(fun h=>by cases h)⟩ (fun y h=>h) (fun w y h1 h2=>⟨.int .i32 ((y.m.st-11:Nat):Int),?_,fun s' hn=>?_⟩) (by simp[aJ])
             | refine lx (vs:=[_,.int .i32 (-7)]) (LA.uz true:LA) rfl rfl ⟨hm,Nat.one_pos,by decide,rfl,_,rfl,fun _=>by omega⟩ (fun y h=>h) (fun w y h1 h2=>⟨.int .i32 ((y.m.st-7:Nat):Int),?_,fun s' hn=>?_⟩) (by simp[aJ])
             ·obtain⟨c1,c2,-,-⟩:=Ib hm h1
              have h2:MF .hnd (some x.m.st) x.E y:=h2
              obtain⟨q1,q2,q3,q4,q5⟩:=h2.word
              obtain⟨p1,p2,p3,p4,-⟩:=h2.2.2.2.2.2.2.2.2 rfl
              first
              | (have:=nK (P:=prog) (f:=aW) (d:= -11) c1 c2;rw[wrap32 (by omega) (by omega),show(y.m.st:Int)+ -11=((y.m.st-11:Nat):Int) by omega]at this;exact this)
              | (have:=nK (P:=prog) (f:=aW) (d:= -7) c1 c2;rw[wrap32 (by omega) (by omega),show(y.m.st:Int)+ -7=((y.m.st-7:Nat):Int) by omega]at this;exact this)
             obtain rfl:s'= .mu .hold none y.E 1 0:=hn
             refine aI<|aB<|L.exit<|qB<|PZ<|qB<|Di<|aB ?_
             refine L.dW ?_
             refine L.seq<|L.region rfl ?_
             refine F6 (s':=_) rfl (show 0<1 from Nat.one_pos) (fun x s'' h=>h) ?_
             refine aI<|aB<|L.region rfl<|lq rfl (aj rfl rfl) ?_
             refine RU (LA.non:LA) rfl rfl (by kernel_rfl) (by simp[eX,aJ]) (fun y h=>h) (by simp[rH,aJ]) (by simp[aJ]) (fun w y h1 h2=>?_)
             refine⟨⟨_,(Ib hm h1).1⟩,rfl,rfl,fun s' hn=>?_⟩
             obtain rfl:s'=_:=hn
             refine lx (vs:=[_]) (LA.acq:LA) rfl rfl ⟨hm,rfl,rfl,rfl⟩ (fun y h=>h) (fun w y h1 h2=>⟨_,fB (mk:=.acquire) (by simp) rfl,fun s' hn=>?_⟩) (by simp[aJ])
             obtain rfl:s'=_:=hn
             refine aI ?_
             exact bM (vs:=[]) ⟨rfl,_,_,rfl⟩
          ·refine L.qc (s':=.mu .FD (some x.m.st) x.E 1 0) (by rw[kE,if_neg (by omega)]) ?_
           refine L.skip<|aB<|L.seq<|L.region rfl<|lq rfl (aH rfl rfl)<|aI<|aB<|L.region rfl<|lq rfl (aH rfl rfl)<|aI ?_
           refine PY<|aB ?_
           have ht1:=ht.1 (by omega)
           exact⟨rfl,⟨ws,sv,true,0,x.m.st,x.E⟩,⟨by simp,w1,fun _=>⟨by simp only;omega,by simp only;omega⟩,fun _=>rfl⟩,by simp only;omega,⟨rfl,rfl,rfl,rfl,rfl,rfl,trivial⟩,rfl⟩
      ·refine aI<|aB ?_
       refine L.bZ ?_
       refine L.region rfl<|lq rfl (aj rfl rfl)<|lq rfl (aK rfl rfl)<|lq rfl (aF rfl rfl) ?_
       refine yA hm hq rfl rfl (fun x hx=>?_)
       obtain⟨w1,w2,w3,w4,w5⟩:=hx.word
       have hE:x.E<B:=hx.2.2.2.2.1 rfl
       refine lq rfl (aH rfl rfl)<|aI<|PY<|aB ?_
       exact⟨rfl,⟨ws,sv,aw,it,x.m.st,x.E⟩,⟨k1,w1,fun ha=>MF.rl hx ha,k4⟩,by simp only;omega,⟨rfl,rfl,rfl,rfl,rfl,rfl,trivial⟩,by rw[wu];try rfl⟩
end Go.aS

/- The mutex's Lock and Unlock, as a worker calls them. Conditions: none; over the given program. -/
namespace Go.aS
set_option maxRecDepth 100000
set_option maxHeartbeats 4000000
theorem XP{γ:GP}(hm:γ.mu≠none){B:Nat}:iK prog false (aJ γ.toGrp) oJ #[.pointer (some ⟨γ.Mu,0,none⟩)] (.mu .out none B 0 0) fun v s=>v= .tuple #[]∧∃o B,s= .mu .hold o B 0 1:=by
 refine iK.aG xA rfl (by show 1≤13;decide) [(0,.pointer (some ⟨γ.Mu,0,none⟩))] ⟨rfl,trivial⟩ ?_
 refine L.seq<|L.region rfl ?_
 refine ZR (s':=.mu .out none B 1 0) rfl trivial (fun x s'' h=>h) ?_
 refine aI<|aB<|L.seq<|L.seq<|L.region rfl<|lq rfl (aj rfl rfl)<|lq rfl (aK rfl rfl)<|lq rfl (aF rfl rfl) ?_
 refine XL (o:=0) (nw:=1) (r':=.hold) hm rfl rfl ⟨hm,Nat.one_pos,by decide,⟨⟨0,0,0,0,0⟩,by decide,rfl,rfl,rfl,rfl⟩,.inr ⟨rfl,rfl,rfl⟩⟩ ?_ ?_
 ·refine aI<|aB ?_
  refine L.dW ?_
  refine L.seq ?_
  refine L.dW ?_
  refine L.seq<|L.region rfl ?_
  refine F6 (s':=.mu .hold none B 0 0) rfl (show 0<1 from Nat.one_pos) (fun x s'' h=>h) ?_
  refine aI<|aB<|L.region rfl<|lq rfl (aj rfl rfl) ?_
  refine RU (LA.non:LA) rfl rfl (by kernel_rfl) (by simp[eX,aJ]) (fun y h=>h) (by simp[rH,aJ]) (by simp[aJ]) (fun w y h1 h2=>?_)
  refine⟨⟨_,(Ib hm h1).1⟩,rfl,rfl,fun s' hn=>?_⟩
  obtain rfl:s'=_:=hn
  refine lx (vs:=[_]) (LA.acq:LA) rfl rfl ⟨hm,rfl,rfl,rfl⟩ (fun y h=>h) (fun w y h1 h2=>⟨_,fB (mk:=.acquire) (by simp) rfl,fun s' hn=>?_⟩) (by simp[aJ])
  obtain rfl:s'=_:=hn
  refine aI<|aB<|L.ret<|BI ?_
  exact bM (vs:=[]) ⟨rfl,_,_,rfl⟩
 ·refine aI<|aB ?_
  refine L.bZ ?_
  refine L.skip<|aB<|L.region rfl<|lq rfl (aj rfl rfl) ?_
  refine lc (vs:=[_]) rfl rfl ?_ (hd:=rfl)
  refine iK.mono (P5 (γ:=γ) hm) ?_
  rintro v s ⟨rfl,o,B',rfl⟩
  refine aI ?_
  exact bM (vs:=[]) ⟨rfl,_,_,rfl⟩
theorem Z5{γ:GP}(hm:γ.mu≠none){B:Nat}:iK prog false (aJ γ.toGrp) t_ #[.pointer (some ⟨γ.Mu,0,none⟩)] (.mu .out none B 0 0) fun v s=>v= .tuple #[]∧∃o B,s= .mu .hold o B 0 1:=by
 refine iK.aG CW rfl (by show 1≤6;decide) [(0,.pointer (some ⟨γ.Mu,0,none⟩))] ⟨rfl,trivial⟩ ?_
 refine L.region rfl<|lq rfl (aj rfl rfl)<|lq rfl (aK rfl rfl)<|lq rfl (aF rfl rfl) ?_
 refine lc (vs:=[_]) rfl rfl ?_ (hd:=rfl)
 refine iK.mono (XP (γ:=γ) hm) ?_
 rintro v s ⟨rfl,o,B',rfl⟩
 refine aI ?_
 exact bM (vs:=[]) ⟨rfl,_,_,rfl⟩

def XQ(st:Nat):MR:=if st / 8=0∨st % 8≠0 then .fin else .Nh
theorem KT{γ:GP}(hm:γ.mu≠none){st B:Nat}(hst:st<528)(hl:st % 2=0){r:MR}(hr:r=if st / 4 % 2=1 then .wK else XQ st):iK prog false (aJ γ.toGrp) f_ #[.pointer (some ⟨γ.Mu,0,none⟩),.int .i32 (st:Int)] (.mu r (some st) B 1 2) fun v s=>v= .tuple #[]∧∃o B,s= .mu .fin o B 1 2:=by
 have hq:(prog.funcs[f_]?).any (·.norace)=true:=by rw[lI];exact F5
 refine iK.aG lI rfl (by show 2≤43;decide) [(0,.pointer (some ⟨γ.Mu,0,none⟩)),(1,.int .i32 (st:Int))] ⟨rfl,rfl,trivial⟩ ?_
 refine L.seq<|L.seq<|L.region rfl<|lq rfl (aj rfl rfl) ?_
 refine iy (u:=.int .i32 ((st+1:Nat):Int)) rfl (rU rfl rfl rfl) (congrArg (Value.int .i32) (by rw[wrap32 (by omega) (by omega)];omega)) ?_
 refine iy (u:=.int .i32 1) rfl (jI rfl rfl rfl) (congrArg (Value.int .i32) ((mu1 (by omega)).trans (by omega))) ?_
 refine iy (u:=.bool false) rfl (kF rfl rfl rfl) rfl ?_
 refine aI<|aB ?_
 refine L.bZ ?_
 refine L.skip<|aB<|L.seq<|L.region rfl<|lq rfl (aj rfl rfl) ?_
 refine iy rfl (jI rfl rfl rfl) (congrArg (Value.int .i32) (mu4 (by omega))) ?_
 refine lq rfl (kF rfl rfl rfl) ?_
 refine aI<|aB ?_
 refine L.bC rfl (fun c12=>?_) (fun c12=>?_)
 ·refine L.qc (s':=.mu (XQ st) (some st) B 1 2) (by rw[hr,if_neg (by omega)]) ?_
  refine L.seq<|L.region rfl<|lq rfl (aj rfl rfl)<|lq rfl (aH rfl rfl)<|aI<|aB<|L.block ?_
  refine L.loop (x:=⟨prog,false,aJ γ.toGrp,f_,iZ.ntmps⟩) (σ:=Nat×Nat) (fun s=>s.1<528) (fun s=>[(0,.pointer (some ⟨γ.Mu,0,none⟩)),(4,.int .i32 (s.1:Int))])
   (fun s=>(LS.mu (XQ s.1) (some s.1) s.2 1 2:LS)) (fun s=>s.2) ⟨st,B⟩ hst ⟨rfl,rfl,trivial⟩ rfl (fun s hC=>?_)
  obtain⟨st,B⟩:=s
  replace hC:st<528:=hC
  refine L.qc (s':=.mu (XQ st) (some st) B 1 2) rfl ?_
  refine L.env (ρ':=[(0,.pointer (some ⟨γ.Mu,0,none⟩)),(4,.int .i32 (st:Int))]) ⟨rfl,rfl,trivial⟩ ?_
  refine L.block<|L.seq<|L.seq<|L.region rfl<|lq rfl (aj rfl rfl) ?_
  refine iy rfl (Eb rfl rfl rfl (by decide)) (congrArg (Value.int .i32) (Vh (by omega))) ?_
  refine lq rfl (kF rfl rfl rfl) ?_
  refine lq rfl (aj rfl rfl) ?_
  refine LO.ask (fun ae2=>?_) (fun ae2=>?_)
  ·refine gY ?_
   refine gY ?_
   refine gY ?_
   refine lq rfl (eP rfl rfl rfl)<|aI<|aB ?_
   refine L.dW ?_
   refine L.ret<|BI ?_
   refine KQ ?_
   refine BI ?_
   refine KQ ?_
   refine bM (vs:=[]) ⟨rfl,some st,B,?_⟩
   rw[XQ,if_pos (by omega)]
  ·refine lq rfl (aj rfl rfl) ?_
   refine iy rfl (jI rfl rfl rfl) (congrArg (Value.int .i32) (mu7 (by omega))) ?_
   refine lq rfl (jH rfl rfl rfl) ?_
   refine lq rfl (dh rfl rfl rfl)<|aI<|aB ?_
   refine L.bC rfl (fun c21=>?_) (fun c21=>?_)
   ·refine L.ret<|BI ?_
    refine KQ ?_
    refine BI ?_
    refine KQ ?_
    refine bM (vs:=[]) ⟨rfl,some st,B,?_⟩
    rw[XQ,if_pos (by omega)]
   ·refine L.skip<|aB<|L.seq<|L.region rfl<|lq rfl (aj rfl rfl) ?_
    refine iy (u:=.int .i32 ((st-8:Nat):Int)) rfl (wW rfl rfl rfl) (congrArg (Value.int .i32) (by rw[wrap32 (by omega) (by omega)];omega)) ?_
    refine iy (u:=.int .i32 ((st-6:Nat):Int)) rfl (XB rfl rfl rfl) (congrArg (Value.int .i32) ((adl (by omega)).trans (by omega))) ?_
    refine lq rfl (aH rfl rfl)<|aI<|aB<|L.seq<|L.seq<|L.region rfl<|lq rfl (aj rfl rfl)<|lq rfl (aK rfl rfl)<|lq rfl (aF rfl rfl)<|lq rfl (aj rfl rfl) ?_
    refine lq rfl (aj rfl rfl) ?_
    rw[show XQ st= .Nh by rw[XQ,if_neg (by omega)]]
    refine XL (o:=st) (nw:=st-6) (r':=.rel) hm rfl rfl ⟨hm,Nat.one_pos,by decide,⟨kQ.set ⟨0,0,0,0,0⟩ st,⟨show st % 2≤1 by omega,show st / 2 % 2≤1 by omega,show st / 4 % 2≤1 by omega⟩,(kQ.wM _ _).symm,⟨show 0<st / 8 by omega,show st % 2=0 by omega,show st / 2 % 2=0 by omega,show st / 4 % 2=0 by omega,by rw[kQ.wM];omega⟩⟩,.inl rfl⟩ ?_ ?_
    ·refine aI<|aB ?_
     refine L.dW ?_
     refine L.seq<|L.region rfl<|lq rfl (aj rfl rfl)<|lq rfl (aK rfl rfl)<|lq rfl (aF rfl rfl) ?_
     refine lx (vs:=[_,_,_]) (LA.Bh:LA) rfl rfl ⟨hm,Nat.one_pos,by decide,.inl rfl⟩ (fun y h=>h) (fun w y h1 h2=>⟨.tuple #[],?_,fun s' hn=>?_⟩) (by simp[aJ])
     ·obtain⟨-,-,c3,c4⟩:=Ib hm h1
      obtain⟨-,-,q,-⟩:MF .rel none B y:=h2
      have:=Ip (P:=prog) (f:=dN) (args:= #[.pointer (some ⟨γ.Mu,1,none⟩),.bool false,.int .i64 2]) rfl c3 c4
      rw[Ir (by omega) (by omega)]at this
      exact this
     obtain rfl:s'= .mu .fin none y.E 1 2:=hn
     refine aI<|aB<|L.ret<|BI ?_
     refine KQ ?_
     refine BI ?_
     refine KQ ?_
     exact bM (vs:=[]) ⟨rfl,_,_,rfl⟩
    ·refine aI<|aB ?_
     refine L.bZ ?_
     refine L.skip<|aB<|L.region rfl<|lq rfl (aj rfl rfl)<|lq rfl (aK rfl rfl)<|lq rfl (aF rfl rfl) ?_
     refine yA hm hq rfl rfl (fun x hx=>?_)
     obtain⟨w1,w2,w3,w4,w5⟩:=hx.word
     have hE:x.E<B:=hx.2.2.2.2.1 rfl
     refine lq rfl (aH rfl rfl)<|aI<|PY<|aB ?_
     exact⟨rfl,⟨x.m.st,x.E⟩,w1,hE,⟨rfl,rfl,trivial⟩,by
      show LS.mu (XQ x.m.st) _ _ _ _=LS.mu (kE .Nh x.m) _ _ _ _
      rw[XQ,kE]
      by_cases h:x.m.n=0∨x.m.l=1∨x.m.w=1∨x.m.s=1
      ·rw[if_pos h,if_pos (by omega)]
      ·rw[if_neg h,if_neg (by omega)]⟩
 ·refine L.qc (s':=.mu .wK (some st) B 1 2) (by rw[hr,if_pos (by omega)]) ?_
  refine L.region rfl<|lq rfl (aj rfl rfl)<|lq rfl (aK rfl rfl)<|lq rfl (aF rfl rfl) ?_
  refine lx (vs:=[_,_,_]) (LA.Bh:LA) rfl rfl ⟨hm,Nat.one_pos,by decide,.inr rfl⟩ (fun y h=>h) (fun w y h1 h2=>⟨.tuple #[],?_,fun s' hn=>?_⟩) (by simp[aJ])
  ·obtain⟨-,-,c3,c4⟩:=Ib hm h1
   obtain⟨-,-,q,-⟩:MF .wK (some st) B y:=h2
   have:=Ip (P:=prog) (f:=dN) (args:= #[.pointer (some ⟨γ.Mu,1,none⟩),.bool true,.int .i64 2]) rfl c3 c4
   rw[Ir (by omega) (by omega)]at this
   exact this
  obtain rfl:s'= .mu .fin none y.E 1 2:=hn
  refine aI ?_
  exact bM (vs:=[]) ⟨rfl,_,_,rfl⟩

theorem RX{γ:GP}(hm:γ.mu≠none){B:Nat}:iK prog false (aJ γ.toGrp) iY #[.pointer (some ⟨γ.Mu,0,none⟩)] (.mu .hold none B 0 1) fun v s=>v= .tuple #[]∧∃o B,s= .mu .fin o B 0 2:=by
 have hq:(prog.funcs[iY]?).any (·.norace)=true:=by rw[lg];exact Oa
 refine iK.aG lg rfl (by show 1≤21;decide) [(0,.pointer (some ⟨γ.Mu,0,none⟩))] ⟨rfl,trivial⟩ ?_
 refine L.seq ?_
 refine L.dW ?_
 refine L.seq<|L.region rfl<|lq rfl (aj rfl rfl)<|lq rfl (aK rfl rfl)<|lq rfl (aF rfl rfl) ?_
 refine yA hm hq rfl rfl (fun x hx=>?_)
 rw[show kE .hold x.m= .hold from rfl]
 refine aI<|aB<|L.seq<|L.region rfl<|lq rfl (aj rfl rfl) ?_
 refine RU (LA.non:LA) rfl rfl (by kernel_rfl) (by simp[eX,aJ]) (fun y h=>h) (by simp[rH,aJ]) (by simp[aJ]) (fun w y h1 h2=>?_)
 refine⟨⟨_,(Ib hm h1).1⟩,rfl,rfl,fun s' hn=>?_⟩
 obtain rfl:s'=_:=hn
 refine lx (vs:=[_]) (LA.rm:LA) rfl rfl ⟨hm,rfl,rfl,rfl⟩ (fun y h=>h) (fun w y h1 h2=>⟨_,fB (mk:=.releaseMerge) (by simp) rfl,fun s' hn=>?_⟩) (by simp[aJ])
 obtain rfl:s'=_:=hn
 refine aI<|aB<|L.region rfl ?_
 refine ZR (s':=.mu .hold (some x.m.st) x.E 1 2) rfl trivial (fun x s'' h=>h) ?_
 refine aI<|aB<|L.seq<|L.region rfl<|lq rfl (aj rfl rfl)<|lq rfl (aK rfl rfl)<|lq rfl (aF rfl rfl) ?_
 refine lx (vs:=[_,.int .i32 (-1)]) (LA.Kr:LA) rfl rfl ⟨hm,Nat.one_pos,by decide,rfl⟩ (fun y h=>h) (fun w y h1 h2=>⟨.int .i32 ((y.m.st-1:Nat):Int),?_,fun s' hn=>?_⟩) (by simp[aJ])
 ·obtain⟨c1,c2,-,-⟩:=Ib hm h1
  have h2:MF .hold (some x.m.st) x.E y:=h2
  obtain⟨q1,q2,q3,q4,q5⟩:=h2.word
  have q6:=h2.2.2.2.2.2.1 rfl
  have:=nK (P:=prog) (f:=aW) (d:= -1) c1 c2
  rw[wrap32 (by omega) (by omega),show(y.m.st:Int)+ -1=((y.m.st-1:Nat):Int) by omega]at this
  exact this
 obtain rfl:s'= .mu (Hl y.m) (some (y.m.st-1)) y.E 1 2:=hn
 have h2:MF .hold (some x.m.st) x.E y:=h2
 obtain⟨q1,q2,q3,q4,q5⟩:=h2.word
 have q6:=h2.2.2.2.2.2.1 rfl
 refine lq rfl (aH rfl rfl)<|aI<|aB<|L.seq<|L.seq<|L.region rfl<|lq rfl (aj rfl rfl) ?_
 refine lq rfl (jH rfl rfl rfl) ?_
 refine aI<|aB ?_
 refine L.bC rfl (fun c16=>?_) (fun c16=>?_)
 ·refine L.region rfl<|lq rfl (aj rfl rfl)<|lq rfl (aj rfl rfl) ?_
  refine lc (vs:=[_,_]) rfl rfl ?_ (hd:=rfl)
  refine iK.mono (KT (γ:=γ) hm (st:=y.m.st-1) (by omega) (by omega) ?_) ?_
  ·rw[Hl,XQ]
   by_cases h:y.m.s=1
   ·rw[if_pos h,if_pos (by omega)]
   ·have e1:¬(y.m.st-1) / 4 % 2=1:=by omega
    rw[if_neg h,if_neg e1]
    by_cases h':y.m.n=0∨y.m.w=1
    ·rw[if_pos h',if_pos (by omega)]
    ·rw[if_neg h',if_neg (by omega)]
  rintro v s ⟨rfl,o,B',rfl⟩
  refine aI<|aB<|L.region rfl ?_
  refine F6 (s':=_) rfl (show 0<1 from Nat.one_pos) (fun x s'' h=>h) ?_
  refine aI ?_
  exact bM (vs:=[]) ⟨rfl,_,_,rfl⟩
 ·refine L.qc (s':=.mu .fin (some (y.m.st-1)) y.E 1 2) (by rw[Hl,if_neg (by omega),if_pos (by omega)]) ?_
  refine L.skip<|aB<|L.region rfl ?_
  refine F6 (s':=_) rfl (show 0<1 from Nat.one_pos) (fun x s'' h=>h) ?_
  refine aI ?_
  exact bM (vs:=[]) ⟨rfl,_,_,rfl⟩
theorem Vj{γ:GP}(hm:γ.mu≠none){B:Nat}:Y9 prog false (aJ γ.toGrp) kR #[.pointer (some ⟨γ.Mu,0,none⟩)] (.mu .hold none B 0 1) fun s=>∃o B,s= .mu .fin o B 0 2:=by
 refine Y9.aG zT rfl (by show 1≤6;decide) [(0,.pointer (some ⟨γ.Mu,0,none⟩))] ⟨rfl,trivial⟩ ?_
 refine L.region rfl<|lq rfl (aj rfl rfl)<|lq rfl (aK rfl rfl)<|lq rfl (aF rfl rfl) ?_
 refine lc (vs:=[_]) rfl rfl ?_ (hd:=rfl)
 refine iK.mono (RX (γ:=γ) hm) ?_
 rintro v s ⟨rfl,o,B',rfl⟩
 refine aI ?_
 exact bM (vs:=[]) ⟨_,_,rfl⟩
end Go.aS

/- What plants, plans and floors are, in numbers; what the checks answer. Conditions: none. -/
namespace Go.aS
abbrev I(n:Int):Value:=.int .i64 n
structure Fl where
 (pl lo hi co:Int)
 deriving DecidableEq
structure St where
 (day co wa:Int)
 deriving DecidableEq
structure Be where
 (fl day:Int)
 deriving DecidableEq
def Fl.row(f:Fl):List Value:=[I f.pl,I f.lo,I f.hi,I f.co]
def St.row(f:St):List Value:=[I f.day,I f.co,I f.wa]
def Be.row(f:Be):List Value:=[I f.fl,I f.day]
abbrev Fl.val(f:Fl):Value:=.agg #[I f.pl,I f.lo,I f.hi,I f.co]
abbrev St.val(f:St):Value:=.agg #[I f.day,I f.co,I f.wa]
abbrev Be.val(f:Be):Value:=.agg #[I f.fl,I f.day]
instance:Rw Fl.row 4:=⟨fun _=>rfl,fun _=>rfl⟩
instance:Rw St.row 3:=⟨fun _=>rfl,fun _=>rfl⟩
instance:Rw Be.row 2:=⟨fun _=>rfl,fun _=>rfl⟩

def outs(n lo hi:Int):Prop:=n<lo∨hi<n
instance{n lo hi:Int}:Decidable (outs n lo hi):=inferInstanceAs (Decidable (_∨_))

/-! ### Plans -/
abbrev adu(p:List Be):Value:=.agg (flat Be.row p).toArray
abbrev hall0:Value:=.agg #[.slice none 0 0,.slice none 0 0]
abbrev afZ:Value:=adu [⟨0,0⟩,⟨0,0⟩,⟨0,0⟩,⟨0,0⟩]
end Go.aS

/- Ways through a graph of few nodes: the first ways to each node, searched in breadth; that they are the first ones. Conditions: none; no program in sight. -/
namespace Go.aS
set_option linter.unusedVariables false
abbrev yV:=Nat→List (Nat×Nat)
def yQ:List Nat→Nat:=fun l=>l.foldl (fun a p=>5*a+(p+1)) 0
theorem XR:yQ []=0:=rfl
theorem oW(l:List Nat)(p:Nat):yQ (l++[p])=5*yQ l+(p+1):=by simp[yQ,List.foldl_append]

def qJ(g:yV):Nat→List Nat→Nat→Prop
 | k,[],e=>k=e
 | k,p::r,e=>∃o,(p,o)∈g k∧qJ g o r e
theorem F7{g:yV}:∀{l l':List Nat} {k e:Nat},qJ g k (l++l') e↔∃m,qJ g k l m∧qJ g m l' e
 | [],l',k,e=>by simp[qJ]
 | p::r,l',k,e=>by
  simp only[List.cons_append,qJ]
  constructor
  ·rintro⟨o,h1,h2⟩
   obtain⟨m,h3,h4⟩:=F7.1 h2
   exact⟨m,⟨o,h1,h3⟩,h4⟩
  ·rintro⟨m,⟨o,h1,h3⟩,h4⟩
   exact⟨o,h1,F7.2 ⟨m,h3,h4⟩⟩
theorem lW{g:yV}{l:List Nat}{p k e:Nat}:qJ g k (l++[p]) e↔∃m,qJ g k l m∧(p,e)∈g m:=by
 rw[F7]
 simp only[qJ]
 constructor
 ·rintro⟨m,h,o,h1,rfl⟩;exact⟨m,h,h1⟩
 ·rintro⟨m,h,h1⟩;exact⟨m,h,e,h1,rfl⟩

structure Ui(g:yV):Prop where
 asc:∀k,(g k).Pairwise fun a b=>a.1<b.1
 low:∀k p o,(p,o)∈g k→p<4

theorem Ui.fn{g:yV}(h:Ui g){k p o o':Nat}(h1:(p,o)∈g k)(h2:(p,o')∈g k):o=o':=by
 have:=h.asc k
 revert this h1 h2
 generalize g k=l
 intro h1 h2 hp
 induction l with
 | nil=>cases h1
 | cons a l ih=>
  rw[List.pairwise_cons]at hp
  rcases List.mem_cons.1 h1 with e1 | h1'
  ·rcases List.mem_cons.1 h2 with e2 | h2'
   ·rw[←e1]at e2;exact(Prod.mk.inj e2).2.symm
   ·have:=hp.1 _ h2';rw[←e1]at this;simp at this
  ·rcases List.mem_cons.1 h2 with e2 | h2'
   ·have:=hp.1 _ h1';rw[←e2]at this;simp at this
   ·exact ih h1' h2' hp.2

theorem Z7{α:Type}{motive:List α→Prop}(l:List α)(nil:motive [])(snoc:∀(l:List α) (p:α),motive l→motive (l++[p])):motive l:=by
 have key:∀n (l:List α),l.length=n→motive l:=by
  intro n
  induction n with
  | zero=>intro l h;rw[List.length_eq_zero_iff.1 h];exact nil
  | succ n ih=>
   intro l h
   rcases List.eq_nil_or_concat l with rfl | ⟨r,p,rfl⟩
   ·cases h
   ·rw[List.concat_eq_append]at*
    exact snoc r p (ih r (by simpa using h))
 exact key _ l rfl
/-! ### The search in breadth. -/
abbrev Wy:=List Nat×Nat
def nU(way:List Nat):List (Nat×Nat)→List Nat→List Wy→List Nat×List Wy
 | [],met,todo=>(met,todo)
 | (p,o)::r,met,todo=>if o∈met then nU way r met todo else nU way r (o::met) (todo++[(way++[p],o)])
def RY(g:yV):Nat→List Nat→List Wy→List Wy
 | 0,_,_=>[]
 | _+1,_,[]=>[]
 | n+1,met,w::todo=>w::RY g n (nU w.1 (g w.2) met todo).1 (nU w.1 (g w.2) met todo).2
def Ah(g:yV)(q:Nat):List Wy:=RY g 40 [] [([],q)]

structure P6(g:yV)(q:Nat)(done:List Wy)(met:List Nat)(todo:List Wy):Prop where
 path:∀w∈done++todo,qJ g q w.1 w.2
 srt:(done++todo).Pairwise fun a b=>yQ a.1<yQ b.1
 XT:∀o,o∈met↔∃w∈done++todo,w.1≠[]∧w.2=o
 next:∀w∈done,∀p o,(p,o)∈g w.2→∃w'∈done++todo,w'.1≠[]∧w'.2=o∧yQ w'.1≤yQ (w.1++[p])
 root:([],q)∈done++todo
 par:∀u∈todo,u.1≠[]→∃w∈done,∃p,u.1=w.1++[p]∧p<4
 ndm:met.Nodup
 len:∀u∈done++todo,u.1.length≤met.length

structure Dj(g:yV)(q:Nat)(done:List Wy)(w:Wy)(gone:List (Nat×Nat))(met:List Nat)(todo:List Wy):Prop where
 path:∀u∈done++w::todo,qJ g q u.1 u.2
 srt:(done++w::todo).Pairwise fun a b=>yQ a.1<yQ b.1
 XT:∀o,o∈met↔∃u∈done++w::todo,u.1≠[]∧u.2=o
 next:∀u∈done,∀p o,(p,o)∈g u.2→∃w'∈done++w::todo,w'.1≠[]∧w'.2=o∧yQ w'.1≤yQ (u.1++[p])
 Uj:∀p o,(p,o)∈gone→∃w'∈done++w::todo,w'.1≠[]∧w'.2=o∧yQ w'.1≤yQ (w.1++[p])
 root:([],q)∈done++w::todo
 par:∀u∈todo,u.1≠[]→(∃x∈done,∃p,u.1=x.1++[p]∧p<4)∨∃p,u.1=w.1++[p]∧∃o,(p,o)∈gone
 ndm:met.Nodup
 len:∀u∈done++w::todo,u.1.length≤met.length

theorem Dj.steps{g:yV}(hg:Ui g){q:Nat}{done:List Wy}{w:Wy}:∀{r gone:List (Nat×Nat)} {met:List Nat} {todo:List Wy},gone++r=g w.2→Dj g q done w gone met todo→
  Dj g q done w (g w.2) (nU w.1 r met todo).1 (nU w.1 r met todo).2
 | [],gone,met,todo,e,H=>by
  rw[List.append_nil]at e
  subst e
  exact H
 | (
    p,o)::r,gone,met,todo,e,H=>by
  have hmem:(p,o)∈g w.2:=by rw[←e];simp
  have Du:=hg.low _ _ _ hmem
  have hasc:∀p' o',(p',o')∈gone→p'<p:=fun p' o' h'=>by
   have:=hg.asc w.2
   rw[←e,List.pairwise_append]at this
   exact this.2.2 _ h' _ (List.mem_cons_self ..)
  have e':(gone++[(p,o)])++r=g w.2:=by rw[List.append_assoc];exact e
  unfold nU
  split
  ·rename_i hm
   refine Dj.steps hg e' {H with Uj:=fun p' o' h'=>?_,par:=fun u hu hn=>(H.par u hu hn).imp id fun⟨p',h1,o',h2⟩=>⟨p',h1,o',by simp[h2]⟩}
   rcases List.mem_append.1 h' with h' | h'
   ·exact H.Uj p' o' h'
   ·obtain⟨rfl,rfl⟩:=Prod.mk.inj (List.mem_singleton.1 h')
    obtain⟨u,h1,h2,h3⟩:=(H.XT o').1 hm
    refine⟨u,h1,h2,h3,?_⟩
    rw[oW]
    rcases List.mem_append.1 h1 with h1 | h1
    ·have:=H.srt
     rw[List.pairwise_append]at this
     have:=this.2.2 u h1 w (List.mem_cons_self ..)
     omega
    ·rcases List.mem_cons.1 h1 with rfl | h1
     ·omega
     ·rcases H.par u h1 h2 with⟨x,h4,p2,h5,h6⟩ | ⟨p2,h5,o2,h6⟩
      ·rw[h5,oW]
       have:=H.srt
       rw[List.pairwise_append]at this
       have:=this.2.2 x h4 w (List.mem_cons_self ..)
       omega
      ·rw[h5,oW]
       have:=hasc p2 o2 h6
       omega
  ·rename_i hm
   have mem_iff:∀u,u∈done++w::(todo++[(w.1++[p],o)])↔u∈done++w::todo∨u=(w.1++[p],o):=fun u=>by
    simp only[List.mem_append,List.mem_cons,List.not_mem_nil,or_false]
    constructor
    ·rintro(h | h | h | h)
     ·exact .inl (.inl h)
     ·exact .inl (.inr (.inl h))
     ·exact .inl (.inr (.inr h))
     ·exact .inr h
    ·rintro((h | h | h) | h)
     ·exact .inl h
     ·exact .inr (.inl h)
     ·exact .inr (.inr (.inl h))
     ·exact .inr (.inr (.inr h))
   have big:∀u∈done++w::todo,yQ u.1<yQ (w.1++[p]):=fun u hu=>by
    rw[oW]
    rcases List.mem_append.1 hu with h1 | h1
    ·have:=H.srt
     rw[List.pairwise_append]at this
     have:=this.2.2 u h1 w (List.mem_cons_self ..)
     omega
    ·rcases List.mem_cons.1 h1 with rfl | h1
     ·omega
     ·by_cases h2:u.1=[]
      ·rw[h2,XR];omega
      ·rcases H.par u h1 h2 with⟨x,h4,p2,h5,h6⟩ | ⟨p2,h5,o2,h6⟩
       ·rw[h5,oW]
        have:=H.srt
        rw[List.pairwise_append]at this
        have:=this.2.2 x h4 w (List.mem_cons_self ..)
        omega
       ·rw[h5,oW]
        have:=hasc p2 o2 h6
        omega
   refine Dj.steps hg e' ⟨fun u hu=>?_,?_,fun o'=>?_,fun u hu p' o' h'=>?_,fun p' o' h'=>?_,?_,fun u hu hn=>?_,List.nodup_cons.2 ⟨hm,H.ndm⟩,fun u hu=>?_⟩
   ·rcases(mem_iff u).1 hu with hu | rfl
    ·exact H.path u hu
    ·exact lW.2 ⟨w.2,H.path w (by simp),hmem⟩
   ·have:done++w::(todo++[(w.1++[p],o)])=(done++w::todo)++[(w.1++[p],o)]:=by simp
    rw[this,List.pairwise_append]
    exact⟨H.srt,List.pairwise_singleton _ _,fun u hu v hv=>by rw[List.mem_singleton.1 hv];exact big u hu⟩
   ·rw[List.mem_cons,H.XT o']
    constructor
    ·rintro(rfl | ⟨u,h1,h2⟩)
     ·exact⟨_,(mem_iff _).2 (.inr rfl),by simp,rfl⟩
     ·exact⟨u,(mem_iff _).2 (.inl h1),h2⟩
    ·rintro⟨u,h1,h2,h3⟩
     rcases(mem_iff _).1 h1 with h1 | rfl
     ·exact .inr ⟨u,h1,h2,h3⟩
     ·exact .inl h3.symm
   ·obtain⟨w',h1,h2⟩:=H.next u hu p' o' h'
    exact⟨w',(mem_iff _).2 (.inl h1),h2⟩
   ·rcases List.mem_append.1 h' with h' | h'
    ·obtain⟨w',h1,h2⟩:=H.Uj p' o' h'
     exact⟨w',(mem_iff _).2 (.inl h1),h2⟩
    ·obtain⟨rfl,rfl⟩:=Prod.mk.inj (List.mem_singleton.1 h')
     exact⟨_,(mem_iff _).2 (.inr rfl),by simp,rfl,Nat.le_refl _⟩
   ·exact(mem_iff _).2 (.inl H.root)
   ·rcases List.mem_append.1 hu with hu | hu
    ·exact(H.par u hu hn).imp id fun⟨p',h1,o',h2⟩=>⟨p',h1,o',by simp[h2]⟩
    ·rw[List.mem_singleton.1 hu]
     exact .inr ⟨p,rfl,o,by simp⟩
   ·rw[List.length_cons]
    rcases(mem_iff u).1 hu with hu | rfl
    ·exact Nat.le_succ_of_le (H.len u hu)
    ·have:=H.len w (by simp)
     simp only[List.length_append,List.length_cons,List.length_nil]
     omega

theorem P6.step{g:yV}(hg:Ui g){q:Nat}{done:List Wy}{w:Wy}{met:List Nat}{todo:List Wy}(H:P6 g q done met (w::todo)):
  P6 g q (done++[w]) (nU w.1 (g w.2) met todo).1 (nU w.1 (g w.2) met todo).2:=by
 have G:Dj g q done w [] met todo:=⟨H.path,H.srt,H.XT,H.next,fun _ _ h=>(by cases h),H.root,fun u hu hn=>.inl (H.par u (List.mem_cons_of_mem _ hu) hn),H.ndm,H.len⟩
 have G':=Dj.steps hg (r:=g w.2) (gone:=[]) rfl G
 generalize nU w.1 (g w.2) met todo=X at*
 obtain⟨met',todo'⟩:=X
 simp only at*
 have e:(done++[w])++todo'=done++w::todo':=by simp
 refine⟨fun u hu=>G'.path u (e▸hu),by rw[e];exact G'.srt,fun o=>by rw[e];exact G'.XT o,fun u hu p o h=>?_,by rw[e];exact G'.root,fun u hu hn=>?_,G'.ndm,fun u hu=>G'.len u (e▸hu)⟩
 ·rw[e]
  rcases List.mem_append.1 hu with hu | hu
  ·exact G'.next u hu p o h
  ·rw[List.mem_singleton.1 hu]at h⊢
   exact G'.Uj p o h
 ·rcases G'.par u hu hn with⟨x,h1,p,h2,h3⟩ | ⟨p,h1,o,h2⟩
  ·exact⟨x,by simp[h1],p,h2,h3⟩
  ·exact⟨w,by simp,p,h1,hg.low _ _ _ h2⟩

theorem P6.start{g:yV}{q:Nat}:P6 g q [] [] [([],q)]:=by
 refine⟨fun w hw=>?_,by simp,fun o=>?_,fun w hw=>(by cases hw),(by simp),fun u hu hn=>?_,List.nodup_nil,fun u hu=>by rw[List.mem_singleton.1 hu];exact Nat.le_refl _⟩
 ·obtain rfl:=List.mem_singleton.1 hw;rfl
 ·constructor
  ·intro h;cases h
  ·rintro⟨w,h1,h2,h3⟩
   obtain rfl:=List.mem_singleton.1 h1
   exact absurd rfl h2
 ·obtain rfl:=List.mem_singleton.1 hu
  exact absurd rfl hn

def Cm(n:Nat)(met:List Nat)(todo:List Wy):Nat:=2*(n-met.length)+todo.length
theorem JH:∀{n:Nat} {l:List Nat},l.Nodup→(∀x∈l,x<n)→l.length≤n
 | 0,l,_,hx=>by
  cases l with
  | nil=>exact Nat.le_refl _
  | cons a l=>exact absurd (hx a (List.mem_cons_self ..)) (by omega)
 | n+1,l,hl,hx=>by
  have h1:=JH (n:=n) (l:=l.erase n) (hl.erase _) fun x h=>by
   have h2:=(List.Nodup.mem_erase_iff hl).1 h
   have:=hx x h2.2
   omega
  have h2:=List.length_erase (l:=l) (a:=n)
  split at h2 <;>omega
theorem Dk{way:List Nat}{n:Nat}:∀{r:List (Nat×Nat)} {met:List Nat} {todo:List Wy},(∀p o,(p,o)∈r→o<n)→met.Nodup→(∀x∈met,x<n)→
  Cm n (nU way r met todo).1 (nU way r met todo).2≤Cm n met todo∧(nU way r met todo).1.Nodup∧∀x∈(nU way r met todo).1,x<n
 | [],met,todo,_,h2,h3=>⟨Nat.le_refl _,h2,h3⟩
 | (
    p,o)::r,met,todo,h1,h2,h3=>by
  unfold nU
  split
  ·exact Dk (fun p o h=>h1 p o (List.mem_cons_of_mem _ h)) h2 h3
  ·rename_i hm
   have hn:(o::met).Nodup:=List.nodup_cons.2 ⟨hm,h2⟩
   have hb:∀x∈o::met,x<n:=fun x hx=>by
    rcases List.mem_cons.1 hx with rfl | hx
    ·exact h1 p _ (List.mem_cons_self ..)
    ·exact h3 x hx
   obtain⟨a,b,c⟩:=Dk (way:=way) (todo:=todo++[(way++[p],o)]) (fun p o h=>h1 p o (List.mem_cons_of_mem _ h)) hn hb
   refine⟨Nat.le_trans a ?_,b,c⟩
   have:=JH hn hb
   simp only[Cm,List.length_cons,List.length_append,List.length_nil]at*
   omega

theorem aeL{g:yV}(hg:Ui g){q n:Nat}(hn:∀k p o,(p,o)∈g k→o<n):∀(fuel:Nat) {done:List Wy} {met:List Nat} {todo:List Wy},P6 g q done met todo→(∀x∈met,x<n)→Cm n met todo<fuel→
  ∃met',P6 g q (done++RY g fuel met todo) met' []
 | 0,_,_,_,_,_,h=>by omega
 | fuel+1,done,met,[],H,_,_=>⟨met,by simpa[RY]using H⟩
 | fuel+1,done,met,w::todo,H,hx,hf=>by
  have h1:=H.step hg
  obtain⟨a,b,c⟩:=Dk (way:=w.1) (n:=n) (todo:=todo) (fun p o h=>hn w.2 p o h) H.ndm hx
  obtain⟨met',h2⟩:=aeL hg hn fuel h1 c (by simp only[Cm,List.length_cons]at*;omega)
  refine⟨met',?_⟩
  rw[RY]
  simpa using h2
theorem aee{g:yV}(hg:Ui g){q:Nat}(hn:∀k p o,(p,o)∈g k→o<13):∃met,P6 g q (Ah g q) met []:=by
 obtain⟨met,h⟩:=aeL hg hn 40 (P6.start (g:=g) (q:=q)) (fun x h=>by cases h) (by simp[Cm])
 exact⟨met,by simpa[Ah]using h⟩

theorem P6.all{g:yV}{q:Nat}{done:List Wy}{met:List Nat}(H:P6 g q done met []):∀(v:List Nat) (e:Nat),qJ g q v e→∃w∈done,w.2=e∧yQ w.1≤yQ v∧(v≠[]→w.1≠[]):=by
 intro v
 induction v using Z7 with
 | nil=>exact fun e h=>⟨([],q),by simpa using H.root,h,Nat.le_refl _,fun h=>absurd rfl h⟩
 | snoc v p ih=>
  intro e h
  obtain⟨m,h1,h2⟩:=lW.1 h
  obtain⟨w,h3,rfl,h5,_⟩:=ih m h1
  obtain⟨w',h6,h7,h8,h9⟩:=H.next w h3 p e h2
  refine⟨w',by simpa using h6,h8,?_,fun _=>h7⟩
  rw[oW]at*
  omega
end Go.aS

/- The first way of a length, read off layers; that the search in breadth finds the same. Conditions: none; no program in sight. -/
namespace Go.aS
set_option linter.unusedVariables false
def P7(g:yV)(T:Nat→Bool):Nat→Nat→Bool
 | 0,k=>T k
 | n+1,k=>(g k).any fun po=>P7 g T n po.2
theorem JI{g:yV}{T:Nat→Bool}:∀{n k:Nat},P7 g T n k=true↔∃v e,v.length=n∧qJ g k v e∧T e=true
 | 0,k=>by
  constructor
  ·intro h;exact⟨[],k,rfl,rfl,h⟩
  ·rintro⟨v,e,h1,h2,h3⟩
   obtain rfl:=List.length_eq_zero_iff.1 h1
   obtain rfl:k=e:=h2
   exact h3
 | n+1,k=>by
  rw[P7,List.any_eq_true]
  constructor
  ·rintro⟨⟨p,o⟩,h1,h2⟩
   obtain⟨v,e,h3,h4,h5⟩:=JI.1 h2
   exact⟨p::v,e,by simp[h3],⟨o,h1,h4⟩,h5⟩
  ·rintro⟨v,e,h1,h2,h3⟩
   cases v with
   | nil=>cases h1
   | cons p v=>
    obtain⟨o,h4,h5⟩:=h2
    exact⟨(p,o),h4,JI.2 ⟨v,e,by simpa using h1,h5,h3⟩⟩
end Go.aS

/- From where one can go on for ever; how long, and how many, the ways are where one cannot. Conditions: none; no program in sight. -/
namespace Go.aS
set_option linter.unusedVariables false
section
variable{g:yV}
abbrev dD(g:yV)(n k:Nat):Bool:=P7 g (fun _=>true) n k
theorem JJ{n k:Nat}:dD g n k=true↔∃v e,v.length=n∧qJ g k v e:=by
 rw[dD,JI]
 exact⟨fun⟨v,e,h1,h2,_⟩=>⟨v,e,h1,h2⟩,fun⟨v,e,h1,h2⟩=>⟨v,e,h1,h2,rfl⟩⟩
theorem Ob{n k:Nat}(h:dD g (n+1) k=true):dD g n k=true:=by
 obtain⟨v,e,h1,h2⟩:=JJ.1 h
 rcases List.eq_nil_or_concat v with rfl | ⟨r,p,rfl⟩
 ·cases h1
 ·rw[List.concat_eq_append]at*
  obtain⟨m,h3,_⟩:=lW.1 h2
  exact JJ.2 ⟨r,m,by simpa using h1,h3⟩
def fE(g:yV)(n:Nat):List Bool:=(List.range 13).map fun k=>dD g n k
def adv(g:yV)(now:List Bool):List Bool:=(List.range 13).map fun k=>(g k).any fun po=>now.getD po.2 false
theorem Ai{n k:Nat}(hk:k<13):(fE g n).getD k false=dD g n k:=by simp[fE,List.getD,hk]
theorem JK(hn:∀k p o,(p,o)∈g k→o<13){n:Nat}:adv g (fE g n)=fE g (n+1):=by
 apply List.map_congr_left
 intro k hk
 show _=(g k).any _
 rw[Bool.eq_iff_iff,List.any_eq_true,List.any_eq_true]
 constructor
 ·rintro⟨po,h1,h2⟩;exact⟨po,h1,by rw[Ai (hn k po.1 po.2 h1)]at h2;exact h2⟩
 ·rintro⟨po,h1,h2⟩;exact⟨po,h1,by rw[Ai (hn k po.1 po.2 h1)];exact h2⟩
theorem Uk:fE g 0=List.replicate 13 true:=rfl

theorem P8:∀{a b:List Bool},a.length=b.length→(∀i,a.getD i false=true→b.getD i false=true)→a.count true≤b.count true∧(a≠b→a.count true<b.count true)
 | [],[],_,_=>⟨Nat.le_refl _,fun h=>absurd rfl h⟩
 | [],_::_,h,_=>by cases h
 | _::_,[],h,_=>by cases h
 | x::a,y::b,h,hi=>by
  obtain⟨h1,h2⟩:=P8 (a:=a) (b:=b) (by simpa using h) fun i=>by simpa using hi (i+1)
  have h0:x=true→y=true:=by simpa using hi 0
  simp only[List.count_cons]
  cases x <;>cases y <;>simp_all <;>omega
theorem GY{n:Nat}:(fE g (n+1)).count true≤(fE g n).count true∧(fE g (n+1)≠fE g n→(fE g (n+1)).count true<(fE g n).count true):=by
 refine P8 (by simp[fE]) fun i h=>?_
 rcases Nat.lt_or_ge i 13 with hi | hi
 ·rw[Ai hi]at*;exact Ob h
 ·simp[fE,List.getD,hi]at h
abbrev aa7(g:yV):List Bool:=fE g 13
theorem F8(hn:∀k p o,(p,o)∈g k→o<13){n:Nat}(h:fE g (n+1)=fE g n):∀m,fE g (n+m)=fE g n
 | 0=>rfl
 | m+1=>by
  have ih:=F8 hn h m
  rw[←Nat.add_assoc,←JK hn,ih,JK hn,h]
theorem Ul(hn:∀k p o,(p,o)∈g k→o<13){n:Nat}(h:fE g (n+1)=fE g n)(hc:n≤13):fE g n=aa7 g:=by
 have:=F8 hn h (13-n)
 rw[←this]
 show fE g (n+(13-n))=fE g 13
 congr 1;omega
def qN(g:yV)(T:Nat→Bool):Nat→Nat→Nat×Nat
 | 0,_=>(0,0)
 | f+1,q=>(g q).foldl (fun a po=>(max a.1 ((qN g T f po.2).1+1),a.2+(qN g T f po.2).2)) (0,if T q then 1 else 0)
theorem wz{n k p o:Nat}(h:dD g (n+1) k=false)(ho:(p,o)∈g k):dD g n o=false:=by
 rw[dD,P7,List.any_eq_false]at h
 simpa using h _ ho
theorem xG{α β:Type}{f f':β→α→β}:∀{l:List α} {b:β},(∀a∈l,∀b,f b a=f' b a)→l.foldl f b=l.foldl f' b
 | [],_,_=>rfl
 | a::l,b,h=>by rw[List.foldl_cons,List.foldl_cons,h a (List.mem_cons_self ..)];exact xG fun x hx=>h x (List.mem_cons_of_mem _ hx)
theorem Aj{T:Nat→Bool}:∀{n f:Nat} {q:Nat},dD g n q=false→n≤f→qN g T f q=qN g T n q
 | 0,_,q,h,_=>by cases h
 | n+1,0,q,h,hf=>by omega
 | n+1,f+1,q,h,hf=>by
  rw[qN,qN]
  apply xG
  intro po hpo b
  rw[Aj (n:=n) (wz (p:=po.1) (o:=po.2) h hpo) (by omega)]
abbrev og(g:yV)(T:Nat→Bool)(q:Nat):Nat×Nat:=qN g T 13 q
theorem XV{T:Nat→Bool}{n:Nat}{q:Nat}(h:dD g (n+1) q=false)(hn:n≤12):og g T q=(g q).foldl (fun a po=>(max a.1 ((og g T po.2).1+1),a.2+(og g T po.2).2)) (0,if T q then 1 else 0):=by
 rw[og,Aj h (by omega),qN]
 apply xG
 intro po hpo b
 rw[←Aj (T:=T) (f:=13) (wz (p:=po.1) (o:=po.2) h hpo) (by omega)]
theorem RZ{l:List (Nat×Nat)}{F:Nat→Nat×Nat}:∀{a:Nat×Nat},(l.foldl (fun a po=>(max a.1 ((F po.2).1+1),a.2+(F po.2).2)) a).2=a.2+(l.map fun po=>(F po.2).2).sum:=by
 induction l with
 | nil=>intro a;simp
 | cons b l ih=>intro a;rw[List.foldl_cons,ih];simp only[List.map_cons,List.sum_cons];omega
theorem abQ{l:List Nat}{b:Nat}(h:∀x∈l,x≤b):l.sum≤l.length*b:=by
 induction l with
 | nil=>simp
 | cons a l ih=>
  have h1:=ih fun x hx=>h x (List.mem_cons_of_mem _ hx)
  have h2:=h a (List.mem_cons_self ..)
  simp only[List.sum_cons,List.length_cons,Nat.add_mul]
  omega
theorem xH{T:Nat→Bool}(h4:∀k,(g k).length≤4):∀{f q:Nat},(qN g T f q).1≤f∧(qN g T f q).2≤5 ^ f
 | 0,q=>by simp[qN]
 | f+1,q=>by
  constructor
  ·rw[qN]
   have:∀(l:List (Nat×Nat)) (a:Nat×Nat),a.1≤f+1→(l.foldl (fun a po=>(max a.1 ((qN g T f po.2).1+1),a.2+(qN g T f po.2).2)) a).1≤f+1:=by
    intro l
    induction l with
    | nil=>intro a h;exact h
    | cons b l ih=>
     intro a h
     rw[List.foldl_cons]
     refine ih _ ?_
     have:=(xH h4 (T:=T) (f:=f) (q:=b.2)).1
     simp only;omega
   exact this _ _ (by simp)
  ·rw[qN,RZ]
   have h1:((g q).map fun po=>(qN g T f po.2).2).sum≤((g q).map fun po=>(qN g T f po.2).2).length*5 ^ f:=abQ fun x hx=>by
    obtain⟨po,_,rfl⟩:=List.mem_map.1 hx
    exact(xH h4 (T:=T) (f:=f) (q:=po.2)).2
   rw[List.length_map]at h1
   have h2:(g q).length*5 ^ f≤4*5 ^ f:=Nat.mul_le_mul_right _ (h4 q)
   have h3:1≤5 ^ f:=Nat.one_le_pow _ _ (by omega)
   rw[Nat.pow_succ]
   split <;>simp only <;>omega
end
/-! ### Which pans to close: the sets, those with fewer pans first. -/
def ae3:List Nat:=[0,1,2,4,8,3,5,9,6,10,12,7,11,13,14,15]
def tu(s:Nat):Nat:=ae3.idxOf s
def JL(s:Nat):List Nat:=(List.range 4).filter fun n=>s.testBit n
theorem XW:∀s,s<16→∀t,t<16→tu s=tu t→s=t:=by decide
def eF(all:Nat)(l:List Nat):Nat:=l.foldl (fun b s=>if tu s<tu b then s else b) all
theorem xI:∀{l:List Nat} {all:Nat},(eF all l∈all::l)∧∀s∈all::l,tu (eF all l)≤tu s
 | [],all=>by simp[eF]
 | a::l,all=>by
  have e:eF all (a::l)=eF (if tu a<tu all then a else all) l:=rfl
  rw[e]
  obtain⟨h1,h2⟩:=xI (l:=l) (all:=if tu a<tu all then a else all)
  have h3:=h2 _ (List.mem_cons_self ..)
  constructor
  ·rcases List.mem_cons.1 h1 with h | h
   ·rw[h];split <;>simp
   ·simp[h]
  ·intro s hs
   have:tu (if tu a<tu all then a else all)≤tu a∧tu (if tu a<tu all then a else all)≤tu all:=by split <;>omega
   rcases List.mem_cons.1 hs with rfl | hs
   ·omega
   ·rcases List.mem_cons.1 hs with rfl | hs
    ·omega
    ·exact h2 s (List.mem_cons_of_mem _ hs)
theorem JM{l l':List Nat}{all:Nat}(hp:l.Perm l')(hl:∀s∈all::l,s<16):eF all l=eF all l':=by
 obtain⟨h1,h2⟩:=xI (l:=l) (all:=all)
 obtain⟨h3,h4⟩:=xI (l:=l') (all:=all)
 have hq:=hp.cons all
 have h5:=hq.symm.subset h3
 exact XW _ (hl _ h1) _ (hl _ h5) (Nat.le_antisymm (h2 _ h5) (h4 _ (hq.subset h1)))
end Go.aS

/- Pans, and what they take; which pans are open; where syrups lead. Conditions: none. -/
namespace Go.aS
set_option linter.unusedVariables false
structure Pn where
 (lo hi sh:Int)
 deriving DecidableEq
structure Lt where
 (qu po:Int)
 deriving DecidableEq
def Pn.row(p:Pn):List Value:=[I p.lo,I p.hi,I p.sh]
def Lt.row(p:Lt):List Value:=[I p.qu,I p.po]
abbrev Pn.val(p:Pn):Value:=.agg #[I p.lo,I p.hi,I p.sh]
abbrev Lt.val(p:Lt):Value:=.agg #[I p.qu,I p.po]
instance:Rw Pn.row 3:=⟨fun _=>rfl,fun _=>rfl⟩
instance:Rw Lt.row 2:=⟨fun _=>rfl,fun _=>rfl⟩
abbrev U8(n:Nat):Value:=.int .u8 (n:Int)

def gW(p:Pn):Int:=if outs p.lo 0 12∨outs p.hi 0 12 then 1 else if p.hi<p.lo then 5 else if outs p.sh (-6) 6 then 1 else 0
def lX:List Pn→Int
 | []=>0
 | p::r=>if gW p=0 then lX r else gW p
def nV(ps:List Pn):Int:=if 4<ps.length then 6 else lX ps
theorem JO:∀{ps:List Pn},lX ps=0→∀p∈ps,gW p=0
 | [],_,p,h=>by cases h
 | a::ps,h,p,hp=>by
  simp only[lX]at h
  split at h
  ·rename_i h1
   rcases List.mem_cons.1 hp with rfl | hp
   ·exact h1
   ·exact JO h p hp
  ·rename_i h1;exact absurd h h1
structure iP(ps:List Pn):Prop where
 len:ps.length≤4
 pan:∀p∈ps,0≤p.lo∧p.lo≤12∧0≤p.hi∧p.hi≤12∧p.lo≤p.hi∧-6≤p.sh∧p.sh≤6
theorem iP.yB{ps:List Pn}(h:nV ps=0):iP ps:=by
 unfold nV at h
 split at h
 ·cases h
 ·refine⟨by omega,fun p hp=>?_⟩
  have h1:=JO h p hp
  unfold gW at h1
  split at h1
  ·cases h1
  split at h1
  ·cases h1
  split at h1
  ·cases h1
  ·simp only[outs]at*;omega

def Pn.takes(p:Pn)(q:Int):Bool:=decide (p.lo≤q)&&decide (q≤p.hi)
def Pn.out(p:Pn)(q:Int):Int:=min (max (q+p.sh) 0) 12
def P9(ps:List Pn)(q:Int)(i:Nat):Bool:=match ps[i]? with
 | some p=>p.takes q
 | none=>false
def gy(ps:List Pn)(i q:Nat):Nat:=match ps[i]? with
 | some p=>(p.out q).toNat
 | none=>0
theorem AZ{ps:List Pn}{i q:Nat}:gy ps i q<13:=by
 unfold gy
 split
 ·unfold Pn.out;omega
 ·omega
theorem Vl{ps:List Pn}{i q:Nat}{p:Pn}(h:ps[i]? =some p):(gy ps i q:Int)=p.out q:=by
 unfold gy
 rw[h]
 unfold Pn.out
 simp only
 omega

def qO:List Bool→Nat
 | []=>0
 | b::r=>(if b then 1 else 0)+2*qO r
def P_(ps:List Pn)(q:Int):Nat:=qO (ps.map (·.takes q))
theorem Oc:∀{l:List Bool},qO l<2 ^ l.length
 | []=>by simp[qO]
 | b::r=>by
  have:=Oc (l:=r)
  simp only[qO,List.length_cons,Nat.pow_succ]
  split <;>omega
theorem LX{l:List Bool}(h:l.length≤4):qO l<16:=Nat.lt_of_lt_of_le Oc (Nat.pow_le_pow_right (by omega) h)
theorem Qa:∀{l:List Bool} {i:Nat},(qO l).testBit i=l.getD i false
 | [],i=>by simp[qO]
 | b::r,0=>by
  simp only[qO,Nat.testBit_zero,List.getD_cons_zero]
  cases b
  ·simp
  ·simp
 | b::r,i+1=>by
  have e:qO (b::r) / 2=qO r:=by simp only[qO];split <;>omega
  rw[Nat.testBit_succ,e,Qa]
  simp
theorem JQ{ps:List Pn}{q:Int}{i:Nat}:(P_ ps q).testBit i=P9 ps q i:=by
 rw[P_,Qa,P9]
 simp only[List.getD,List.getElem?_map]
 cases ps[i]? <;>rfl
theorem EJ:∀{l:List Bool} {b:Bool},qO (l++[b])=qO l+(if b then 2 ^ l.length else 0)
 | [],b=>by cases b <;>rfl
 | a::l,b=>by
  simp only[List.cons_append,qO,EJ (l:=l),List.length_cons,Nat.pow_succ]
  cases b <;>simp <;>omega
def orT(a k:Nat):Bool:=bits .or .u8 (a:Int) (IntKind.u8.wrap (1*2 ^ (min (k:Int).toNat IntKind.u8.bits)))==((a+2 ^ k:Nat):Int)
theorem Z8:((List.range 4).all fun k=>(List.range (2 ^ k)).all fun a=>orT a k)=true:=by kernel_rfl
theorem Z9{a k:Nat}(hk:k<4)(ha:a<2 ^ k):bits .or .u8 (a:Int) (IntKind.u8.wrap (1*2 ^ (min (k:Int).toNat IntKind.u8.bits)))=((a+2 ^ k:Nat):Int):=by
 have h:=Z8
 rw[List.all_eq_true]at h
 have h:=h k (List.mem_range.2 hk)
 rw[List.all_eq_true]at h
 have h:=h a (List.mem_range.2 ha)
 simpa only[orT,beq_iff_eq]using h
def adw(a k:Nat):Bool:=(bits .and .u8 ((a:Int).fdiv (2 ^ (min (k:Int).toNat IntKind.u8.bits))) 1==1)==a.testBit k
theorem XY:((List.range 16).all fun a=>(List.range 4).all fun k=>adw a k)=true:=by kernel_rfl
theorem Z_{a k:Nat}(ha:a<16)(hk:k<4):decide (bits .and .u8 ((a:Int).fdiv (2 ^ (min (k:Int).toNat IntKind.u8.bits))) 1=1)=a.testBit k:=by
 have h:=XY
 rw[List.all_eq_true]at h
 have h:=h a (List.mem_range.2 ha)
 rw[List.all_eq_true]at h
 have h:=h k (List.mem_range.2 hk)
 simp only[adw,beq_iff_eq]at h
 rw[←h]
 exact(Ii _ _).symm
def R_(a c:Nat):Nat:=(List.range 4).foldl (fun n i=>n+if a.testBit i&& !c.testBit i then 2 ^ i else 0) 0
def adx(a c:Nat):Bool:=(bits .andNot .u8 (a:Int) (c:Int)==(R_ a c:Int))&&decide (R_ a c<16)&&decide (JL (R_ a c)=(List.range 4).filter fun i=>a.testBit i&& !c.testBit i)
theorem XZ:((List.range 16).all fun a=>(List.range 16).all fun c=>adx a c)=true:=by kernel_rfl
theorem X0{a c:Nat}(ha:a<16)(hc:c<16):bits .andNot .u8 (a:Int) (c:Int)=(R_ a c:Int)∧R_ a c<16∧JL (R_ a c)=(List.range 4).filter fun i=>a.testBit i&& !c.testBit i:=by
 have h:=XZ
 rw[List.all_eq_true]at h
 have h:=h a (List.mem_range.2 ha)
 rw[List.all_eq_true]at h
 have h:=h c (List.mem_range.2 hc)
 simp only[adx,Bool.and_eq_true,beq_iff_eq,decide_eq_true_eq]at h
 exact⟨h.1.1,h.1.2,h.2⟩

def bQ(ps:List Pn)(c q:Nat):List Nat:=(List.range 4).filter fun i=>P9 ps q i&& !c.testBit i
def dO(ps:List Pn)(c:Nat):yV:=fun q=>(bQ ps c q).map fun i=>(i,gy ps i q)
theorem Ak{ps:List Pn}{c q i:Nat}:i∈bQ ps c q↔i<4∧P9 ps q i=true∧c.testBit i=false:=by
 simp[bQ]
theorem Um{ps:List Pn}{c q i o:Nat}:(i,o)∈dO ps c q↔i∈bQ ps c q∧o=gy ps i q:=by
 simp only[dO,List.mem_map,Prod.mk.injEq]
 constructor
 ·rintro⟨j,h1,rfl,rfl⟩;exact⟨h1,rfl⟩
 ·rintro⟨h1,rfl⟩;exact⟨i,h1,rfl,rfl⟩
theorem afX{ps:List Pn}{c:Nat}:Ui (dO ps c):=by
 refine⟨fun k=>?_,fun k p o h=>(Ak.1 (Um.1 h).1).1⟩
 unfold dO bQ
 rw[List.pairwise_map]
 exact(List.pairwise_lt_range.filter _)
theorem F9{ps:List Pn}{c:Nat}:∀k p o,(p,o)∈dO ps c k→o<13:=fun k p o h=>by
 rw[(Um.1 h).2];exact AZ
theorem EK{ps:List Pn}{c k:Nat}:(dO ps c k).length≤4:=by
 unfold dO bQ
 rw[List.length_map]
 exact Nat.le_trans (List.length_filter_le ..) (by simp)
theorem wB{ps:List Pn}{c q:Nat}:(bQ ps c q).length≤4:=Nat.le_trans (List.length_filter_le ..) (by simp)
theorem EL{ps:List Pn}{c q i:Nat}(h:i∈bQ ps c q):i<ps.length:=by
 have:=(Ak.1 h).2.1
 unfold P9 at this
 split at this
 ·rename_i p hp
  rcases Nat.lt_or_ge i ps.length with h' | h'
  ·exact h'
  ·rw[List.getElem?_eq_none h']at hp;cases hp
 ·cases this
def dY(ps:List Pn)(q:Int):Bool:=ps.all fun p=> !p.takes q
theorem aac{ps:List Pn}{q:Int}:decide (P_ ps q=0)=dY ps q:=by
 unfold P_ dY
 induction ps with
 | nil=>rfl
 | cons p ps ih=>
  simp only[List.map_cons,qO,List.all_cons]
  rw[←ih]
  cases p.takes q
  ·simp;omega
  ·simp

def zs(l:List Nat):List Int:=l.map fun(n:Nat)=>(n:Int)
theorem kT(l:List Nat):(zs l).length=l.length:=by simp[zs]
theorem X3(l l':List Nat):zs (l++l')=zs l++zs l':=by simp[zs]
end Go.aS

/- Quiet operations whose values are named anew. Conditions: none; over any program. -/
namespace Go.aS
section
variable{x:Cx}{Q:Post}{ρ:Env}{ds:List Deferred}{F L:ah}{ops:Array Oper}{i d:Nat}{rest:List Nat}{op:Op}{ty:TypeId}{pos:String}{bK:Array Edge}{g:Option (Nat×Bool)}{v u:Value}
theorem KU(hy:Yv x (· =F) ρ ⟨some d,op,ty,pos,bK,g⟩ v)(e:v=u)(ho:cO ops.toList i=some ⟨some d,op,ty,pos,bK,g⟩)(hw:want ops ρ ⟨some d,op,ty,pos,bK,g⟩)(hd:Nat.blt d x.n=true)(hn:cu op=true)(H:Ops x ops rest Q ((d,u)::ρ) ds F):Ops x ops (i::rest) Q ρ ds F:=
 oq (e▸hy) ho hw hd hn H
theorem aqe{fuel listed:Nat}(hy:Yv x (Keeps L) ρ ⟨some d,op,ty,pos,bK,g⟩ v)(e:v=u)(ho:cO ops.toList i=some ⟨some d,op,ty,pos,bK,g⟩)(hw:dR ops (look ρ) ⟨some d,op,ty,pos,bK,g⟩ true)(hd:Nat.blt d x.n=true)(hn:cu op=true)(H:Any x ops L fuel (listed||| 2 ^ i) Q ((d,u)::ρ) ds F)(hr:(Fq ops listed i&&xR ops listed i&&DJ ops)=true:=by kernel_rfl)(hS:Keeps L F:=by first | exact fun _ h=>h | exact fun _ h=>absurd h List.not_mem_nil | ((repeat(first | exact fun _ h=>h | apply Keeps.cons | apply Keeps.app)) <;>fail) | (repeat(first | exact Keeps.nil | refine Keeps.one (by repeat(first | exact List.Mem.head _ | apply List.Mem.tail)) ?_))):Any x ops L (fuel+1) listed Q ρ ds F:=
 aq (e▸hy) ho hw hd hn H hr hS
end
section
variable{x:Cx}{S:ah→Prop}{ρ:Env}{o:Oper}
theorem ady{t n:Nat}{a:Operand}{b off:Nat}{c vs:Array Value}{E:TypeId}{fz:Nat×Nat}(ho:o.op= .load t a)[AG x.P t n](ha:ev ρ a=some (.pointer (some ⟨b,off,none⟩)))
  (hl:Gv x.h S b (.cells c E fz):=by first | exact .inl (by assumption) | exact .inr (fun _ e=>by subst e;first | exact .head _ | exact .tail _ (.head _) | exact .tail _ (.tail _ (.head _)) | (repeat(first | exact List.Mem.head _ | apply List.Mem.tail))) | exact .inr (fun _ e=>e _ (by first | exact .head _ | exact .tail _ (.head _) | exact .tail _ (.tail _ (.head _)) | (repeat(first | exact List.Mem.head _ | apply List.Mem.tail)))))
  (hn:off+n≤c.size:=by exact Nat.le_of_ble_eq_true rfl) (hv:c.extract off (off+n)=vs:=by first | assumption | rfl):Yv x S ρ o (.agg vs):=Ih ho ha hl hn hv
end
end Go.aS

/- Pans checked; what they take; what comes out; those that are open. Conditions: none; over the given program. -/
namespace Go.aS
set_option maxRecDepth 100000
set_option maxHeartbeats 4000000
theorem jo(main:Side)(h:Hp)(n lo hi:Int):Pu prog main yj #[I n,I lo,I hi] h (.bool (decide (outs n lo hi))):=by
 refine dV.aG FP rfl (by show 3≤15;decide) [(0,I n),(1,I lo),(2,I hi)] ⟨rfl,rfl,rfl,trivial⟩ ?_
 refine W.seq<|W.region rfl<|agb rfl rfl rfl<|pq<|W.seq<|W.region rfl<|qm rfl rfl rfl<|qm rfl rfl rfl ?_
 refine agW (fO rfl rfl rfl) rfl ?_
 refine qm rfl rfl rfl ?_
 refine Ops.ask (fun ae5=>?_) (fun ae5=>?_)
 ·refine Ops.no ?_
  refine Ops.no ?_
  refine Ops.no ?_
  refine agW (dG rfl rfl rfl) rfl ?_
  refine agb rfl rfl rfl<|pq<|W.ret ?_
  refine uZ ?_
  first | exact congrArg Value.bool (decide_eq_true (Or.inl ‹_›)).symm | exact congrArg Value.bool (decide_eq_decide.2 ⟨.inr,fun h=>h.resolve_left ‹_›⟩)
 ·refine oq (aN rfl rfl) rfl (ak rfl rfl rfl) rfl rfl ?_
  refine oq (aN rfl rfl) rfl (ak rfl rfl rfl) rfl rfl ?_
  refine oq (rC rfl rfl rfl) rfl (ak rfl rfl rfl) rfl rfl ?_
  refine agW (iH rfl rfl rfl) rfl ?_
  refine agb rfl rfl rfl<|pq<|W.ret ?_
  refine uZ ?_
  first | exact congrArg Value.bool (decide_eq_true (Or.inl ‹_›)).symm | exact congrArg Value.bool (decide_eq_decide.2 ⟨.inr,fun h=>h.resolve_left ‹_›⟩)

theorem Qb{ps:List Pn}{k:Nat}{p:Pn}(h:lX ps=lX (p::ps.drop (k+1))):lX ps=if gW p=0 then lX (ps.drop (k+1))else gW p:=h
theorem Vm(main:Side)(h:Hp)(ps:List Pn)(vp:Value)(hf:Sl h Pn.row vp ps):Pu prog main BX #[vp] h (I (nV ps)):=by
 obtain⟨a,cap,rfl⟩:=hf.dA
 refine dV.aG Jv rfl (by show 1≤34;decide) [(0,.slice a ps.length cap)] ⟨rfl,trivial⟩ ?_
 refine W.seq<|W.region rfl<|agb rfl rfl rfl<|pq<|W.seq<|W.seq<|W.region rfl<|qm rfl rfl rfl ?_
 refine agW (dM rfl rfl) rfl ?_
 refine agW (rC rfl rfl rfl) rfl ?_
 refine pq ?_
 refine W.bC rfl (fun c7=>?_) (fun c7=>?_)
 ·refine W.seq<|W.region rfl<|agb rfl rfl rfl<|pq<|W.ret<|aY ?_
  refine uZ ?_
  show I _=I _;congr 1;simp only[nV];rw[if_pos (by omega)]
 ·refine W.skip<|aA<|W.seq<|W.seq<|W.region rfl<|qm rfl rfl rfl ?_
  refine agW (dM rfl rfl) rfl ?_
  refine qm rfl rfl rfl<|pq<|W.block ?_
  refine W.loop (σ:=Nat) (fun k=>k≤ps.length∧lX ps=lX (ps.drop k)) (fun k=>[(10,I k),(9,I ps.length),(8,.slice a ps.length cap)]) (fun _=>[]) (fun k=>ps.length-k) 0 ⟨Nat.zero_le _,rfl⟩ ⟨rfl,rfl,rfl,trivial⟩ .refl ?_
  rintro k ⟨hk,hd⟩
  refine W.seq<|W.region rfl ?_
  refine agW (fO rfl rfl rfl) rfl ?_
  refine pq<|W.seq ?_
  refine W.bC rfl (fun c11=>?_) (fun c11=>?_)
  ·obtain⟨p,hp,hdr⟩:=has (show k<ps.length by omega)
   rw[hdr]at hd
   have hd:=Qb hd
   obtain⟨b,off,c,E,fz,rfl,hb,hx,hy,hz⟩:=hf.at hp
   have hx':c.extract (off+k*3) (off+k*3+3)= #[I p.lo,I p.hi,I p.sh]:=hx
   clear hx hz
   refine W.skip<|aA<|W.seq<|W.block<|W.seq<|W.region rfl ?_
   refine ag3 rfl ?_
   refine ag2 rfl ?_
   refine Ops.new (fun wC=>?_)
   first | refine Ops.jP ?_ | refine Ops.nY ?_
   refine pq<|W.block<|W.seq<|W.region rfl ?_
   refine agY rfl ?_
   refine agX rfl ?_
   refine cp (fun h' hE hL=>jo _ h' _ _ _) ?_
   refine qm rfl rfl rfl ?_
   refine Ops.ask (fun abR=>?_) (fun abR=>?_)
   ·refine Ops.no ?_
    refine Ops.no ?_
    refine Ops.no ?_
    refine agW (dG rfl rfl rfl) rfl ?_
    refine agb rfl rfl rfl<|pq ?_
    refine W.dW ?_
    refine W.seq<|W.region rfl<|agb rfl rfl rfl<|pq<|W.ret<|cZ<|cZ<|aY<|aY ?_
    refine cZ<|aY ?_
    refine uZ ?_
    have hc:gW p=1:=by simp only[gW];rw[if_pos];first | exact .inl ‹_› | exact .inr ‹_›
    show I _=I _;congr 1;simp only[nV];rw[if_neg (by omega),hd,hc];rfl
   ·refine oq (ay rfl rfl) rfl (ak rfl rfl rfl) rfl rfl ?_
    refine oq (iQ rfl rfl) rfl (ak rfl rfl rfl) rfl rfl ?_
    refine cp (fun h' hE hL=>jo _ h' _ _ _) ?_
    refine agW (iH rfl rfl rfl) rfl ?_
    refine agb rfl rfl rfl<|pq ?_
    refine W.bC rfl (fun c14=>?_) (fun c14=>?_)
    ·refine W.seq<|W.region rfl<|agb rfl rfl rfl<|pq<|W.ret<|cZ<|cZ<|aY<|aY ?_
     refine cZ<|aY ?_
     refine uZ ?_
     have hc:gW p=1:=by simp only[gW];rw[if_pos];first | exact .inl ‹_› | exact .inr ‹_›
     show I _=I _;congr 1;simp only[nV];rw[if_neg (by omega),hd,hc];rfl
    ·refine W.seq<|W.region rfl ?_
     refine agY rfl ?_
     refine agX rfl ?_
     refine agY rfl ?_
     refine agX rfl ?_
     refine agW (rC rfl rfl rfl) rfl ?_
     refine agb rfl rfl rfl<|pq ?_
     refine W.bC rfl (fun c23=>?_) (fun c23=>?_)
     ·refine W.seq<|W.region rfl<|agb rfl rfl rfl<|pq<|W.ret<|cZ<|cZ<|aY<|aY ?_
      refine cZ<|aY ?_
      refine uZ ?_
      have hc:gW p=5:=by simp only[gW];rw[if_neg (by rintro(h | h) <;>contradiction),if_pos (by assumption)]
      show I _=I _;congr 1;simp only[nV];rw[if_neg (by omega),hd,hc];rfl
     ·refine W.seq<|W.region rfl ?_
      refine agY rfl ?_
      refine agX rfl ?_
      refine cp (fun h' hE hL=>jo _ h' _ _ _) ?_
      refine agb rfl rfl rfl<|pq ?_
      refine W.bC rfl (fun c29=>?_) (fun c29=>?_)
      ·refine W.seq<|W.region rfl<|agb rfl rfl rfl<|pq<|W.ret<|cZ<|cZ<|aY<|aY ?_
       refine cZ<|aY ?_
       refine uZ ?_
       have hc:gW p=1:=by simp only[gW];rw[if_neg (by rintro(h | h) <;>contradiction),if_neg (by assumption),if_pos (by assumption)]
       show I _=I _;congr 1;simp only[nV];rw[if_neg (by omega),hd,hc];rfl
      ·refine W.skip<|dI<|dI<|aA<|W.region rfl ?_
       refine ag1 rfl ?_
       refine qm rfl rfl rfl<|pq ?_
       have hc:gW p=0:=by simp only[gW];rw[if_neg (by rintro(h | h) <;>contradiction),if_neg (by assumption),if_neg (by assumption)]
       rw[hc,if_pos rfl]at hd
       exact⟨rfl,k+1,⟨by omega,hd⟩,by omega,⟨rfl,rfl,rfl,trivial⟩,TW⟩
  ·have:k=ps.length:=by omega
   subst this
   have hz:lX ps=0:=by rw[hd];simp[lX]
   refine W.exit<|bP<|bP<|gG<|aA<|W.seq<|W.region rfl<|agb rfl rfl rfl<|pq ?_
   refine W.ret ?_
   refine uZ ?_
   show I _=I _;congr 1;simp only[nV];rw[if_neg (by omega),hz]

theorem JR(main:Side)(h:Hp)(ps:List Pn)(vp:Value)(q:Int)(hf:Sl h Pn.row vp ps)(h4:ps.length≤4):Pu prog main qF #[.agg #[vp],I q] h (U8 (P_ ps q)):=by
 obtain⟨a,cap,rfl⟩:=hf.dA
 refine dV.aG zX rfl (by show 2≤32;decide) [(0,.agg #[.slice a ps.length cap]),(1,I q)] ⟨rfl,rfl,trivial⟩ ?_
 refine W.seq<|W.region rfl ?_
 refine Ops.box (fun yR=>?_)
 refine agb rfl rfl rfl<|pq<|W.seq<|W.region rfl<|agb rfl rfl rfl<|pq<|W.seq<|W.seq ?_
 refine W.region rfl ?_
 refine agY rfl ?_
 refine agX rfl ?_
 refine agW (dM rfl rfl) rfl ?_
 refine qm rfl rfl rfl<|pq<|W.block ?_
 refine W.loop (σ:=Nat) (fun k=>k≤ps.length) (fun k=>[(11,I k),(10,I ps.length),(9,.slice a ps.length cap),(1,I q),(5,U8 (qO ((ps.take k).map (·.takes q))))]) (fun _=>[]) (fun k=>ps.length-k) 0 (Nat.zero_le _) ⟨rfl,rfl,rfl,rfl,rfl,trivial⟩ (.skip rfl .refl) ?_
 rintro k hk
 refine W.seq<|W.region rfl ?_
 refine agW (fO rfl rfl rfl) rfl ?_
 refine pq<|W.seq ?_
 refine W.bC rfl (fun c12=>?_) (fun c12=>?_)
 ·have hkl:k<ps.length:=by omega
  obtain⟨p,hp,hdr⟩:=has hkl
  obtain⟨b,off,c,E,fz,rfl,hb,hx,hy,hz⟩:=hf.at hp
  have hx':c.extract (off+k*3) (off+k*3+3)= #[I p.lo,I p.hi,I p.sh]:=hx
  clear hx hz
  have hlt:qO ((ps.take k).map (·.takes q))<2 ^ k:=by have:=Oc (l:=(ps.take k).map (·.takes q));simpa[Nat.min_eq_left hk]using this
  have hnx:(ps.take (k+1)).map (·.takes q)=(ps.take k).map (·.takes q)++[p.takes q]:=by rw[List.take_add_one,hp];simp
  have hl:((ps.take k).map (·.takes q)).length=k:=by simp[Nat.min_eq_left hk]
  refine W.skip<|aA<|W.seq<|W.block<|W.seq<|W.region rfl<|qm rfl rfl rfl ?_
  refine ag3 rfl ?_
  refine ag2 rfl ?_
  refine Ops.new (fun Vo=>?_)
  refine agb rfl rfl rfl ?_
  first | refine Ops.jP ?_ | refine Ops.nY ?_
  refine pq<|W.seq<|W.region rfl<|qm rfl rfl rfl ?_
  refine agY rfl ?_
  refine agX rfl ?_
  refine agW (IJ rfl rfl rfl) rfl ?_
  refine qm rfl rfl rfl ?_
  refine Ops.ask (fun aad=>?_) (fun aad=>?_)
  ·refine oq (aN rfl rfl) rfl (ak rfl rfl rfl) rfl rfl ?_
   refine oq (ay rfl rfl) rfl (ak rfl rfl rfl) rfl rfl ?_
   refine oq (iQ rfl rfl) rfl (ak rfl rfl rfl) rfl rfl ?_
   refine oq (Lr rfl rfl rfl) rfl (ak rfl rfl rfl) rfl rfl ?_
   refine agW (dG rfl rfl rfl) rfl ?_
   refine pq ?_
   refine W.bC rfl (fun c25=>?_) (fun c25=>?_)
   ·refine W.region rfl<|qm rfl rfl rfl<|qm rfl rfl rfl ?_
    refine agW (Wx rfl rfl rfl (by omega)) rfl ?_
    refine KU (acI rfl rfl rfl) (congrArg (Value.int .u8) (Z9 (k:=k) (by omega) hlt)) rfl wn rfl rfl ?_
    refine agb rfl rfl rfl<|Ops.nil<|dI<|aA<|W.region rfl ?_
    refine ag1 rfl ?_
    refine qm rfl rfl rfl<|pq ?_
    have e:qO ((ps.take (k+1)).map (·.takes q))=qO ((ps.take k).map (·.takes q))+2 ^ k:=by
     rw[hnx,EJ,hl,if_pos];simp only[Pn.takes,Bool.and_eq_true,decide_eq_true_eq];exact⟨aad,c25⟩
    exact⟨rfl,k+1,hkl,by omega,⟨rfl,rfl,rfl,rfl,lk rfl (by rw[e]),trivial⟩,TW⟩
   ·refine W.skip<|dI<|aA<|W.region rfl ?_
    refine ag1 rfl ?_
    refine qm rfl rfl rfl<|pq ?_
    have e:qO ((ps.take (k+1)).map (·.takes q))=qO ((ps.take k).map (·.takes q)):=by
     rw[hnx,EJ,hl,if_neg,Nat.add_zero];simp only[Pn.takes,Bool.and_eq_true,decide_eq_true_eq]
     first | exact fun h=>c25 h.2 | exact fun h=>aad h.1
    exact⟨rfl,k+1,hkl,by omega,⟨rfl,rfl,rfl,rfl,lk rfl (by rw[e]),trivial⟩,TW⟩
  ·refine Ops.no ?_
   refine Ops.no ?_
   refine Ops.no ?_
   refine Ops.no ?_
   refine agW (iH rfl rfl rfl) rfl ?_
   refine pq ?_
   refine W.bZ ?_
   refine W.skip<|dI<|aA<|W.region rfl ?_
   refine ag1 rfl ?_
   refine qm rfl rfl rfl<|pq ?_
   have e:qO ((ps.take (k+1)).map (·.takes q))=qO ((ps.take k).map (·.takes q)):=by
    rw[hnx,EJ,hl,if_neg,Nat.add_zero];simp only[Pn.takes,Bool.and_eq_true,decide_eq_true_eq]
    first | exact fun h=>c25 h.2 | exact fun h=>aad h.1
   exact⟨rfl,k+1,hkl,by omega,⟨rfl,rfl,rfl,rfl,lk rfl (by rw[e]),trivial⟩,TW⟩
 ·have hkl:k=ps.length:=by omega
  subst hkl
  refine W.exit<|bP<|bP<|gG<|aA<|W.seq<|W.region rfl<|qm rfl rfl rfl<|agb rfl rfl rfl<|Ops.nil ?_
  refine aA<|W.ret ?_
  refine uZ ?_
  rw[List.take_length];rfl
end Go.aS
