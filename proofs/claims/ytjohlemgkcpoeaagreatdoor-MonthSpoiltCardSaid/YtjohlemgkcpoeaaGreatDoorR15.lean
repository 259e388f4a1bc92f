/- The wait group's Add of one, as the starter calls it; Done, as a worker does. Conditions: none; over the given program. (And 8 texts more.) -/
import Derived.Test.YtjohlemgkcpoeaaGreatDoorR14
import Derived.Test.YtjohlemgkcpoeaaGreatDoorR10
import Derived.Test.YtjohlemgkcpoeaaGreatDoorR12
set_option linter.unusedVariables false
set_option linter.unusedSimpArgs false
set_option linter.unusedSectionVars false
set_option maxRecDepth 100000
set_option maxHeartbeats 4000000

open Go.Proofs.Tryz
namespace Go.jc
variable{E:ah}{a f:Int}{b:Be}{fs:List Fl}{h:Hp}{i j k:Nat}{may:PY}{p:List Be}{ss:List St}{v:Value}{α:Type}{γ:GP}
theorem amY:nJ aV true (gJ γ.toGrp) lS #[.pointer (some ⟨γ.Wg,0,none⟩),.int .i64 1] (.wg (.add 0) 0) fun v s=>v= .tuple #[]/\s= .wg (.add 1) 0:=by
 refine nJ.gX func85 O (by show 2<=117;decide) [(0,.pointer (some ⟨γ.Wg,0,none⟩)),(1,.int .i64 1)] ⟨O,O,trivial⟩ ?_;refine L.seq ?_;refine L.kG ?_;refine L.seq<|L.seq<|L.region rfl<|lq rfl (aP rfl rfl) ?_;refine B_ (u:=.bool false) O (abe O O O) O ?_;refine fD<|dI ?_;refine L.iq ?_;refine L.skip<|dI<|L.seq<|L.region rfl ?_;refine atI (s':=.wg (.add 0) 1) O ⟨by simp,by simp⟩ (fun x wE h=>h) ?_;refine fD<|dI<|L.region rfl ?_;refine auj O ?_;refine fD<|dI<|L.seq<|L.region rfl<|lq rfl (gV rfl rfl)<|fD<|dI<|L.seq<|L.seq<|L.region rfl ?_;refine lx0 (vs:=[]) O O (fun w=>P_ (args:= #[])) ?_;refine fD<|dI ?_;refine L.iq ?_;refine L.skip<|dI<|L.seq<|L.region rfl<|lq rfl (aP rfl rfl)<|lq rfl (dW rfl rfl)<|lq rfl (cO rfl rfl)<|lq rfl (aP rfl rfl) ?_;refine B_ (u:=.int .u64 1) O (EP O O) aB ?_;refine B_ (u:=.int .u64 4294967296) O (aod O O O dF) aB ?_;refine lc (vs:=[_,_]) O O (aj2 (m:=true) (γ:=γ) (s:=.wg (.add 0) 1) (b:=γ.Wg) (dl:=4294967296) (LA.Z9:LA) ⟨aj,O⟩ (fun y h=>h) (by simp) (fun w y h1 h2=>?_)) (hd:=rfl);obtain⟨c1,c2,-,-⟩:=XE h1;obtain⟨v0,-,-,z1,-⟩:WF (.add 0) y:=h2
 have e:IntKind.u64.wrap ((y.st:Int)+4294967296)=(((y.v+1)*4294967296+0:Nat):Int):=by
  rw[aou aj (by simp only[xP.st];omega)];simp only[xP.st,z1];omega
 refine⟨_,c1,c2,?_,O,fun s' hn=>?_⟩
 ·show World.setCell _ _ (.int .u64 ((y.st+4294967296:Nat):Int))=_;rw[e,show y.st+4294967296=(y.v+1)*4294967296+0 by simp only[xP.st,z1];omega];rfl
 obtain rfl:s'= .wg (.add 1) 1:=hn;rw[e];have hv1:1<=y.v+1:=by omega
 have hv2:y.v+1<=65:=by omega
 generalize y.v+1=v at hv1 hv2⊢;clear e c1 c2 h1 v0;refine lq rfl (gV rfl rfl)<|fD<|dI<|L.seq<|L.seq<|L.region rfl<|lq rfl (aP rfl rfl) ?_;refine B_ (u:=.int .u64 0) O (UD O O O) (congrArg (Value.int .u64) (wgv (v:=v) (w:=0) aj aj).1) ?_;refine B_ (u:=.bool false) O (Bh O O O) O ?_;refine lq O (aP O O) ?_;refine Dx ?_;refine Dx ?_;refine lq rfl (oO rfl rfl rfl)<|fD<|dI ?_;refine L.iq ?_;refine L.skip<|dI<|L.seq<|L.region rfl<|lq rfl (aP rfl rfl) ?_;refine lq O (ajq O O O dF) ?_;refine B_ (u:=.int .i32 (v:Int)) O (EP O O) (congrArg (Value.int .i32) (wgv (v:=v) (w:=0) aj aj).2.2.1) ?_;refine lq rfl (gV rfl rfl)<|fD<|dI<|L.seq<|L.region rfl<|lq rfl (aP rfl rfl) ?_;refine B_ (u:=.int .u64 0) O (UD O O O) (congrArg (Value.int .u64) (wgv (v:=v) (w:=0) aj aj).2.1) ?_;refine B_ (u:=.int .u32 0) O (EP O O) aB ?_;refine lq rfl (gV rfl rfl)<|fD<|dI<|L.seq<|L.seq<|L.region rfl<|lq rfl (aP rfl rfl)<|lq rfl (aP rfl rfl) ?_;refine B_ (u:=.bool true) O (UC O O O) O ?_;refine lq rfl (wK rfl rfl rfl)<|lq rfl (aP rfl rfl)<|lq rfl (aP rfl rfl)<|lq rfl (aP rfl rfl) ?_;refine B_ (u:=.int .i32 1) O (EP O O) aB ?_;refine lq O (Xt O O O) ?_;refine lq rfl (wK rfl rfl rfl)<|fD<|dI ?_;refine L.aJ O (fun c67=>?_) (fun c67=>?_)
 ·refine L.region rfl<|lq rfl (aP rfl rfl)<|lq rfl (dW rfl rfl)<|lq rfl (cO rfl rfl) ?_;refine lcv (LA.Ym:LA) O O aB (by simp[oP,gJ]) (fun y h=>h) (by simp[ac0,gJ]) (by simp[gJ]) (fun w y h1 h2=>?_);refine⟨⟨_,(XE h1).2.2.1⟩,O,O,fun s' hn=>?_⟩;obtain rfl:s'= .wg (.add 1) 1:=hn;refine lx (vs:=[_]) (LA.WM:LA) O O ⟨1,O⟩ (fun y h=>h) (fun w y h1 h2=>⟨_,vW (mk:=.read) (by simp) O,fun s' hn=>?_⟩) (by simp[gJ]);obtain rfl:s'= .wg (.add 1) 1:=hn;refine fD<|dI<|L.seq<|L.seq<|L.region rfl<|lq rfl (aP rfl rfl) ?_;refine B_ (u:=.bool false) O (abe O O O) (congrArg Value.bool (decide_eq_false aj)) ?_;refine fD<|dI ?_;refine L.iq ?_;refine L.skip<|dI<|L.seq<|L.seq<|L.region rfl<|lq rfl (aP rfl rfl) ?_;refine B_ (u:=.bool false) O (Bh O O O) O ?_;refine lq O (aP O O) ?_;refine Dx ?_;refine Dx ?_;refine lq rfl (oO rfl rfl rfl)<|lq rfl (aP rfl rfl) ?_;refine Dx ?_;refine Dx ?_;refine Dx ?_;refine Dx ?_;refine lq rfl (oO rfl rfl rfl)<|fD<|dI ?_;refine L.iq ?_;refine L.skip<|dI<|L.seq<|L.seq<|L.region rfl<|lq rfl (aP rfl rfl) ?_;refine B_ (u:=.bool true) O (UC O O O) (congrArg Value.bool (decide_eq_true aj)) ?_;refine lq O (aP O O) ?_;refine Dx ?_;refine Dx ?_;refine lq rfl (wK rfl rfl rfl)<|fD<|dI ?_;refine L.kG ?_;refine L.ret<|V7 ?_;exact sV (s':=.wg (.add 1) 0) (show oP .en (.wg (.add 1) 1)from Nat.one_pos) (fun x wE h=>h) ⟨O,O⟩
 refine L.skip<|dI<|L.seq<|L.seq<|L.region rfl<|lq rfl (aP rfl rfl) ?_;refine B_ (u:=.bool false) O (abe O O O) (congrArg Value.bool (decide_eq_false aj)) ?_;refine fD<|dI ?_;refine L.iq ?_;refine L.skip<|dI<|L.seq<|L.seq<|L.region rfl<|lq rfl (aP rfl rfl) ?_;refine B_ (u:=.bool false) O (Bh O O O) O ?_;refine lq O (aP O O) ?_;refine Dx ?_;refine Dx ?_;refine lq rfl (oO rfl rfl rfl)<|lq rfl (aP rfl rfl) ?_;refine Dx ?_;refine Dx ?_;refine Dx ?_;refine Dx ?_;refine lq rfl (oO rfl rfl rfl)<|fD<|dI ?_;refine L.iq ?_;refine L.skip<|dI<|L.seq<|L.seq<|L.region rfl<|lq rfl (aP rfl rfl) ?_;refine B_ (u:=.bool true) O (UC O O O) (congrArg Value.bool (decide_eq_true aj)) ?_;refine lq O (aP O O) ?_;refine Dx ?_;refine Dx ?_;refine lq rfl (wK rfl rfl rfl)<|fD<|dI ?_;refine L.kG ?_;refine L.ret<|V7 ?_;exact sV (s':=.wg (.add 1) 0) (show oP .en (.wg (.add 1) 1)from Nat.one_pos) (fun x wE h=>h) ⟨O,O⟩

theorem amZ:nJ aV false (gJ γ.toGrp) lS #[.pointer (some ⟨γ.Wg,0,none⟩),.int .i64 (-1)] (.dn .live 0) fun v s=>v= .tuple #[]/\s= .dn .gone 0:=by
 refine nJ.gX func85 O (by show 2<=117;decide) [(0,.pointer (some ⟨γ.Wg,0,none⟩)),(1,.int .i64 (-1))] ⟨O,O,trivial⟩ ?_;refine L.seq ?_;refine L.kG ?_;refine L.seq<|L.seq<|L.region rfl<|lq rfl (aP rfl rfl) ?_;refine B_ (u:=.bool true) O (abe O O O) O ?_;refine fD<|dI ?_;refine L.kG ?_;refine L.region rfl<|lq rfl (aP rfl rfl) ?_;refine lcv (LA.Ym:LA) O O aB (by simp[oP,gJ]) (fun y h=>h) (by simp[ac0,gJ]) (by simp[gJ]) (fun w y h1 h2=>?_);refine⟨⟨_,(XE h1).1⟩,O,O,fun s' hn=>?_⟩;obtain rfl:s'= .dn .live 0:=hn;refine lx (vs:=[_]) (LA.wrm:LA) O O ⟨O,O⟩ (fun y h=>h) (fun w y h1 h2=>⟨_,vW (mk:=.releaseMerge) (by simp) O,fun s' hn=>?_⟩) (by simp[gJ]);obtain rfl:s'= .dn .s1 0:=hn;refine fD<|dI<|L.seq<|L.region rfl ?_;refine atI (s':=.dn .s1 1) O trivial (fun x wE h=>h) ?_;refine fD<|dI<|L.region rfl ?_;refine auj O ?_;refine fD<|dI<|L.seq<|L.region rfl<|lq rfl (gV rfl rfl)<|fD<|dI<|L.seq<|L.seq<|L.region rfl ?_;refine lx0 (vs:=[]) O O (fun w=>P_ (args:= #[])) ?_;refine fD<|dI ?_;refine L.iq ?_;refine L.skip<|dI<|L.seq<|L.region rfl<|lq rfl (aP rfl rfl)<|lq rfl (dW rfl rfl)<|lq rfl (cO rfl rfl)<|lq rfl (aP rfl rfl) ?_;refine B_ (u:=.int .u64 18446744073709551615) O (EP O O) aB ?_;refine B_ (u:=.int .u64 18446744069414584320) O (aod O O O dF) aB ?_;refine lc (vs:=[_,_]) O O (aj2 (m:=false) (γ:=γ) (s:=.dn .s1 1) (b:=γ.Wg) (dl:=18446744069414584320) (LA.aac:LA) ⟨aj,O⟩ (fun y h=>h) (by simp) (fun w y h1 h2=>?_)) (hd:=rfl);obtain⟨c1,c2,-,-⟩:=XE h1;obtain⟨v0,w0,-,z1⟩:DF .s1 y:=h2;have z1:0<y.v:=z1;obtain⟨v,hv⟩:∃v,y.v=v+1:=⟨y.v-1,aj⟩
 have e:IntKind.u64.wrap ((y.st:Int)+18446744069414584320)=((v*4294967296+y.w:Nat):Int):=by
  rw[show(y.st:Int)+18446744069414584320=((v*4294967296+y.w:Nat):Int)+18446744073709551616 by simp only[xP.st,hv];omega];exact aqK aj aj
 refine⟨_,c1,c2,?_,O,fun s' hn=>?_⟩
 ·show World.setCell _ _ (.int .u64 ((y.st-4294967296:Nat):Int))=_;rw[e,show y.st-4294967296=v*4294967296+y.w by simp only[xP.st,hv];omega];rfl
 obtain rfl:s'=if y.v=1/\y.w=1 then .dn .s2 1 else .dn .gone 1:=hn
 rw[e,hv];have hv2:v<=63:=by omega
 generalize y.w=k at w0⊢;clear e c1 c2 h1 v0 hv;refine lq rfl (gV rfl rfl)<|fD<|dI<|L.seq<|L.seq<|L.region rfl<|lq rfl (aP rfl rfl) ?_;refine B_ (u:=.int .u64 0) O (UD O O O) (congrArg (Value.int .u64) (wgv (v:=v) (w:=k) aj aj).1) ?_;refine B_ (u:=.bool false) O (Bh O O O) O ?_;refine lq O (aP O O) ?_;refine Dx ?_;refine Dx ?_;refine lq rfl (oO rfl rfl rfl)<|fD<|dI ?_;refine L.iq ?_;refine L.skip<|dI<|L.seq<|L.region rfl<|lq rfl (aP rfl rfl) ?_;refine lq O (ajq O O O dF) ?_;refine B_ (u:=.int .i32 (v:Int)) O (EP O O) (congrArg (Value.int .i32) (wgv (v:=v) (w:=k) aj aj).2.2.1) ?_;refine lq rfl (gV rfl rfl)<|fD<|dI<|L.seq<|L.region rfl<|lq rfl (aP rfl rfl) ?_;refine B_ (u:=.int .u64 (k:Int)) O (UD O O O) (congrArg (Value.int .u64) (wgv (v:=v) (w:=k) aj aj).2.1) ?_;refine B_ (u:=.int .u32 (k:Int)) O (EP O O) (congrArg (Value.int .u32) (wgv (v:=v) (w:=k) aj aj).2.2.2) ?_;refine lq rfl (gV rfl rfl)<|fD<|dI<|L.seq<|L.seq<|L.region rfl<|lq rfl (aP rfl rfl)<|lq rfl (aP rfl rfl) ?_;refine B_ (u:=.bool false) O (UC O O O) O ?_;refine lq rfl (wK rfl rfl rfl)<|lq rfl (aP rfl rfl) ?_;refine Dx ?_;refine Dx ?_;refine Dx ?_;refine Dx ?_;refine lq rfl (oO rfl rfl rfl)<|fD<|dI ?_;refine L.iq ?_;refine L.skip<|dI<|L.seq<|L.seq<|L.region rfl<|lq rfl (aP rfl rfl) ?_;refine B_ (u:=.bool false) O (abe O O O) (congrArg Value.bool (decide_eq_false aj)) ?_;refine fD<|dI ?_;refine L.iq ?_;refine L.skip<|dI<|L.seq<|L.seq<|L.region rfl<|lq rfl (aP rfl rfl) ?_;refine lq O (Bh O O O) ?_;refine lq O (aP O O) ?_;refine LO.ask (fun aum=>?_) (fun aum=>?_)
 ·refine lq O (aP O O) ?_;refine B_ (u:=.bool false) O (UC O O O) O ?_;refine lq rfl (wK rfl rfl rfl)<|lq rfl (aP rfl rfl) ?_;refine Dx ?_;refine Dx ?_;refine Dx ?_;refine Dx ?_;refine lq rfl (oO rfl rfl rfl)<|fD<|dI ?_;refine L.iq ?_;refine L.skip<|dI<|L.seq<|L.seq<|L.region rfl<|lq rfl (aP rfl rfl) ?_;refine lq O (UC O O O) ?_;refine lq O (aP O O) ?_;refine LO.ask (fun aj9=>?_) (fun aj9=>?_)
  ·refine Dx ?_;refine Dx ?_;refine lq rfl (wK rfl rfl rfl)<|fD<|dI ?_;refine L.kG ?_;refine L.ret<|V7 ?_;rw[if_neg aj];exact sV (s':=.dn .gone 0) (show oP .en (.dn .gone 1)from Nat.one_pos) (fun x wE h=>h) ⟨O,O⟩
  refine lq O (aP O O) ?_;refine lq O (Xt O O O) ?_;refine lq rfl (oO rfl rfl rfl)<|fD<|dI ?_;refine L.aJ O (fun c94=>?_) (fun c94=>?_)
  ·refine L.ret<|V7 ?_;rw[if_neg aj];exact sV (s':=.dn .gone 0) (show oP .en (.dn .gone 1)from Nat.one_pos) (fun x wE h=>h) ⟨O,O⟩
  refine L.skip<|dI<|L.seq<|L.seq ?_;obtain rfl:k=1:=by omega
  obtain rfl:v=0:=by omega
  rw[if_pos ⟨O,O⟩];refine L.region rfl<|lq rfl (aP rfl rfl)<|lq rfl (dW rfl rfl)<|lq rfl (cO rfl rfl) ?_;refine lc (vs:=[_]) O O (Ro (m:=false) (γ:=γ) (s:=.dn .s2 1) (b:=γ.Wg) (LA.PN:LA) ⟨aj,O⟩ (fun y h=>h) (by simp) (fun w y h1 h2=>?_)) (hd:=rfl);obtain⟨-,-,-,z1,z2⟩:DF .s2 y:=h2;refine⟨_,(XE h1).1,O,O,fun s' hn=>?_⟩;obtain rfl:s'= .dn .s3 1:=hn;rw[show(y.st:Int)=((0*4294967296+1:Nat):Int) by simp only[xP.st,z1,z2]];refine lq O (aP O O) ?_;refine B_ (u:=.bool false) O (Bh O O O) (congrArg Value.bool (decide_eq_false (by simp))) ?_;refine fD<|dI ?_;refine L.iq ?_;refine L.skip<|dI<|L.seq<|L.region rfl<|lq rfl (aP rfl rfl)<|lq rfl (dW rfl rfl)<|lq rfl (cO rfl rfl) ?_;refine lc (vs:=[_,_]) O O (abA (m:=false) (γ:=γ) (s:=.dn .s3 1) (b:=γ.Wg) (n:=0) (LA.Ed:LA) ⟨aj,O⟩ (fun y h=>h) (by simp) (fun w y h1 h2=>?_)) (hd:=rfl);refine⟨_,(XE h1).1,(XE h1).2.1,O,O,fun s' hn=>?_⟩;obtain rfl:s'= .dn .s4 1:=hn;refine fD<|dI<|L.seq<|L.seq<|L.region rfl<|lq rfl (aP rfl rfl)<|fD<|dI ?_;refine L.iq ?_;refine L.skip<|dI<|L.block ?_;refine L.loop (x:=⟨aV,false,gJ γ.toGrp,lS,wZ.ntmps⟩) (σ:=Nat) (fun k=>k<=1) (fun k=>[(0,.pointer (some ⟨γ.Wg,0,none⟩)),(8,.int .u32 (k:Int))]) (fun k=>(if k=1 then LS.dn .s4 1 else LS.dn .gone 1:LS)) id 1 (Nat.le_refl _) iw O (fun k hk=>?_);refine L.seq<|L.seq<|L.region rfl<|lq rfl (aP rfl rfl) ?_;refine lq O (Bh O O O) ?_;refine fD<|dI ?_;refine L.aJ O (fun aqO=>?_) (fun aqO=>?_)
  ·obtain rfl:k=1:=by omega
   refine L.skip<|dI<|L.seq<|L.block ?_;refine L.afn (s':=.dn .s4 1) O ?_;refine L.region rfl<|lq rfl (aP rfl rfl)<|lq rfl (dW rfl rfl)<|lq rfl (cO rfl rfl) ?_;refine lx (vs:=[_,_,_]) (LA.G5:LA) O O ⟨aj,O⟩ (fun y h=>h) (fun w y h1 h2=>⟨.tuple #[],?_,fun s' hn=>?_⟩) (by simp[gJ])
   ·obtain⟨-,-,c3,c4⟩:=XE h1;obtain⟨-,-,z1,-⟩:DF .s4 y:=h2;have:=ae_ (P:=aV) (f:=lG) (args:= #[.pointer (some ⟨γ.Wg,1,none⟩),.bool false,.int .i64 0]) O c3 c4;rw[afm aj aj]at this;exact this
   obtain rfl:s'= .dn .gone 1:=hn;refine fD<|aqd<|dI<|L.region rfl<|lq rfl (aP rfl rfl) ?_;refine B_ (u:=.int .u32 0) O (ajp O O O) aB ?_;refine lq rfl (gV rfl rfl)<|fD<|dI ?_;exact⟨O,0,aj,dF,iw,O⟩
  refine L.exit<|amq<|amq<|atK ?_;obtain rfl:k=0:=by omega
  exact sV (s':=.dn .gone 0) (show oP .en (.dn .gone 1)from Nat.one_pos) (fun x wE h=>h) ⟨O,O⟩
 refine Dx ?_;refine Dx ?_;refine lq rfl (oO rfl rfl rfl)<|lq rfl (aP rfl rfl) ?_;refine Dx ?_;refine Dx ?_;refine Dx ?_;refine Dx ?_;refine lq rfl (oO rfl rfl rfl)<|fD<|dI ?_;refine L.iq ?_;refine L.skip<|dI<|L.seq<|L.seq<|L.region rfl<|lq rfl (aP rfl rfl) ?_;refine lq O (UC O O O) ?_;refine lq O (aP O O) ?_;refine LO.ask (fun aj9=>?_) (fun aj9=>?_)
 ·refine Dx ?_;refine Dx ?_;refine lq rfl (wK rfl rfl rfl)<|fD<|dI ?_;refine L.kG ?_;refine L.ret<|V7 ?_;rw[if_neg aj];exact sV (s':=.dn .gone 0) (show oP .en (.dn .gone 1)from Nat.one_pos) (fun x wE h=>h) ⟨O,O⟩
 refine lq O (aP O O) ?_;refine lq O (Xt O O O) ?_;refine lq rfl (oO rfl rfl rfl)<|fD<|dI ?_;refine L.aJ O (fun c94=>?_) (fun c94=>?_)
 ·refine L.ret<|V7 ?_;rw[if_neg aj];exact sV (s':=.dn .gone 0) (show oP .en (.dn .gone 1)from Nat.one_pos) (fun x wE h=>h) ⟨O,O⟩
 refine L.skip<|dI<|L.seq<|L.seq ?_;obtain rfl:k=1:=by omega
 obtain rfl:v=0:=by omega
 rw[if_pos ⟨O,O⟩];refine L.region rfl<|lq rfl (aP rfl rfl)<|lq rfl (dW rfl rfl)<|lq rfl (cO rfl rfl) ?_;refine lc (vs:=[_]) O O (Ro (m:=false) (γ:=γ) (s:=.dn .s2 1) (b:=γ.Wg) (LA.PN:LA) ⟨aj,O⟩ (fun y h=>h) (by simp) (fun w y h1 h2=>?_)) (hd:=rfl);obtain⟨-,-,-,z1,z2⟩:DF .s2 y:=h2;refine⟨_,(XE h1).1,O,O,fun s' hn=>?_⟩;obtain rfl:s'= .dn .s3 1:=hn;rw[show(y.st:Int)=((0*4294967296+1:Nat):Int) by simp only[xP.st,z1,z2]];refine lq O (aP O O) ?_;refine B_ (u:=.bool false) O (Bh O O O) (congrArg Value.bool (decide_eq_false (by simp))) ?_;refine fD<|dI ?_;refine L.iq ?_;refine L.skip<|dI<|L.seq<|L.region rfl<|lq rfl (aP rfl rfl)<|lq rfl (dW rfl rfl)<|lq rfl (cO rfl rfl) ?_;refine lc (vs:=[_,_]) O O (abA (m:=false) (γ:=γ) (s:=.dn .s3 1) (b:=γ.Wg) (n:=0) (LA.Ed:LA) ⟨aj,O⟩ (fun y h=>h) (by simp) (fun w y h1 h2=>?_)) (hd:=rfl);refine⟨_,(XE h1).1,(XE h1).2.1,O,O,fun s' hn=>?_⟩;obtain rfl:s'= .dn .s4 1:=hn;refine fD<|dI<|L.seq<|L.seq<|L.region rfl<|lq rfl (aP rfl rfl)<|fD<|dI ?_;refine L.iq ?_;refine L.skip<|dI<|L.block ?_;refine L.loop (x:=⟨aV,false,gJ γ.toGrp,lS,wZ.ntmps⟩) (σ:=Nat) (fun k=>k<=1) (fun k=>[(0,.pointer (some ⟨γ.Wg,0,none⟩)),(8,.int .u32 (k:Int))]) (fun k=>(if k=1 then LS.dn .s4 1 else LS.dn .gone 1:LS)) id 1 (Nat.le_refl _) iw O (fun k hk=>?_);refine L.seq<|L.seq<|L.region rfl<|lq rfl (aP rfl rfl) ?_;refine lq O (Bh O O O) ?_;refine fD<|dI ?_;refine L.aJ O (fun aqO=>?_) (fun aqO=>?_)
 ·obtain rfl:k=1:=by omega
  refine L.skip<|dI<|L.seq<|L.block ?_;refine L.afn (s':=.dn .s4 1) O ?_;refine L.region rfl<|lq rfl (aP rfl rfl)<|lq rfl (dW rfl rfl)<|lq rfl (cO rfl rfl) ?_;refine lx (vs:=[_,_,_]) (LA.G5:LA) O O ⟨aj,O⟩ (fun y h=>h) (fun w y h1 h2=>⟨.tuple #[],?_,fun s' hn=>?_⟩) (by simp[gJ])
  ·obtain⟨-,-,c3,c4⟩:=XE h1;obtain⟨-,-,z1,-⟩:DF .s4 y:=h2;have:=ae_ (P:=aV) (f:=lG) (args:= #[.pointer (some ⟨γ.Wg,1,none⟩),.bool false,.int .i64 0]) O c3 c4;rw[afm aj aj]at this;exact this
  obtain rfl:s'= .dn .gone 1:=hn;refine fD<|aqd<|dI<|L.region rfl<|lq rfl (aP rfl rfl) ?_;refine B_ (u:=.int .u32 0) O (ajp O O O) aB ?_;refine lq rfl (gV rfl rfl)<|fD<|dI ?_;exact⟨O,0,aj,dF,iw,O⟩
 refine L.exit<|amq<|amq<|atK ?_;obtain rfl:k=0:=by omega
 exact sV (s':=.dn .gone 0) (show oP .en (.dn .gone 1)from Nat.one_pos) (fun x wE h=>h) ⟨O,O⟩

theorem am0:LFD aV false (gJ γ.toGrp) FV #[.pointer (some ⟨γ.Wg,0,none⟩)] (.dn .live 0) fun s=>s= .dn .gone 0:=by
 refine LFD.gX func87 O (by show 1<=4;decide) [(0,.pointer (some ⟨γ.Wg,0,none⟩))] ⟨O,trivial⟩ ?_;refine L.region rfl<|lq rfl (aP rfl rfl) ?_;refine lc (vs:=[_,_]) O O ?_ (hd:=rfl);refine nJ.mono (amZ (γ:=γ)) ?_;rintro v s ⟨rfl,rfl⟩;refine fD ?_;exact jX (vs:=[]) O
theorem XG.clean{w:Option (List Int)}{d:Int}(H:XG w d v E):∃E',XG w d v E'/\(∀b o,(b,o)∈E'->o.isChan=false)/\Sb E' E:=by
 refine⟨E,H,?_,.refl⟩
 cases w with
 | none=>obtain⟨-,rfl⟩:=H;exact fun _ _ h=>by cases h
 | some l=>obtain⟨s,-,h⟩:=H;exact h.cl

structure Pan where
 (B:Nat) (ks:Value) (d n2 n3 n4:Int) (w:Option (List Int))
def Pan.own(p:Pan)(v:Value)(E:ah):ah:=(p.B,.cells (Ap p.ks p.d p.n2 p.n3 p.n4 1 0 v) dX (0,0))::E
def UR(Wg X:Nat)(qI:Nat->Pan):GP:={Wg:=Wg,tW:=Dk,X:=X,q:=6,tX:=gB,fX:=(0,0),R:=fun j A=>∃v E,A=(qI j).own v E/\XG (qI j).w (qI j).d v E}

theorem opener(h:Hp)(qI:Nat->Pan)(j Wg X b5 b9:Nat)(E5:TypeId)(z5:Nat×Nat)(ag:Value)(pass:Int)(kc:Hp)(M:Nat->Prop)(h5:h b5=some (.cells #[aG X] E5 z5))(hA:RdX h X 0 ag)(hPs:RdX h X 1 (I pass))
  (yI:∀l,(qI j).w=some l->-9223372036854775808<=(qI j).d+(l.length:Int)/\(qI j).d+(l.length:Int)<9223372036854775808) (HB:∀h',Ext h h'->bG aV (wkS aV (UR Wg X qI) j) wG #[ag,(qI j).ks,I pass] h' [] (afr (qI j).w))
  (S:Sat h [((qI j).B,.cells (Ap (qI j).ks (qI j).d (qI j).n2 (qI j).n3 (qI j).n4 0 0 .nilIface) dX (0,0)),(b9,.cells #[aG (qI j).B] dA (0,0))] kc M):Wk aV (UR Wg X qI) j (xX aV {target:=.fn (.func Hu) #[aG Wg,aG b5,aG b9],args:= #[]}) kc M:=by
 refine Wk.start (f:=Hu) func86 O O (by show 3<=6;decide) [(0,aG Wg),(1,aG b5),(2,aG b9)] ⟨O,O,O,trivial⟩ S ?_;refine d_ ?_;refine owd (vs:=[aG Wg]) O O O ?_;refine lF ?_;refine oe O wn O O (gq (A:=[((qI j).B,.cells (Ap (qI j).ks (qI j).d (qI j).n2 (qI j).n3 (qI j).n4 0 0 .nilIface) dX (0,0))]) O O (.head (G:=[_])) (fun h' hE hL=>adV _ .wk h' X (qI j).B ag (qI j).ks .nilIface pass (qI j).d (qI j).n2 (qI j).n3 (qI j).n4 (qI j).w (hA.ext hE) (hPs.ext hE) yI (fun h2 NY=>HB h2 (hE.trans NY))) (fun v A' hv=>?_));obtain⟨E,hs,bF⟩:=hv;refine aA.nil ?_;obtain⟨E',xK,um,hsE⟩:=hs.clean;obtain⟨F',hp,-⟩:Sb ((qI j).own v E') (A'++[(b9,.cells #[aG (qI j).B] dA (0,0))]):=(Sb.cons hsE).trans (bF.right (.cons rfl .nil));refine⟨.inr O,.inr ⟨ae6.of am0,O,_,F',hp.symm,fun b o hb=>?_,v,E',O,xK⟩⟩;rcases bU.1 hb with hb | hb
 ·cases hb;rfl
 exact um b o hb
theorem am1:nJ aV true (gJ γ.toGrp) uZ #[.pointer (some ⟨γ.Wg,0,none⟩)] (.wg (.add 0) 0) fun v s=>v= .tuple #[]/\s= .wg .out 0:=by
 refine nJ.gX func88 O (by show 1<=84;decide) [(0,.pointer (some ⟨γ.Wg,0,none⟩))] ⟨O,trivial⟩ ?_;refine L.seq ?_;refine L.kG ?_;refine L.region O ?_;refine lx (vs:=[]) (LA.acZ:LA) O O O (fun y h=>h) (fun w y h1 h2=>⟨_,oD (args:= #[]) (m:=.disable) (by simp),fun s' hn=>?_⟩) (by simp[gJ]);obtain rfl:s'= .wg (.wt none (y.v+1)) 1:=hn;generalize y.v+1=B;refine fD<|dI<|L.block ?_;refine L.loop (x:=⟨aV,true,gJ γ.toGrp,uZ,FW.ntmps⟩) (σ:=Nat) (fun _=>True) (fun _=>[(0,.pointer (some ⟨γ.Wg,0,none⟩))]) (fun k=>(LS.wg (.wt none k) 1:LS)) id B trivial ⟨O,trivial⟩ O (fun B _=>?_);refine L.block<|L.seq<|L.region rfl<|lq rfl (aP rfl rfl)<|lq rfl (dW rfl rfl)<|lq rfl (cO rfl rfl) ?_;refine lc (vs:=[_]) O O (Ro (m:=true) (γ:=γ) (s:=.wg (.wt none B) 1) (b:=γ.Wg) (LA.SH:LA) ⟨aj,B,O⟩ (fun y h=>h) (by simp) (fun w y h1 h2=>?_)) (hd:=rfl);obtain⟨v0,-,-,z1,-,z2,-⟩:WF (.wt none B) y:=h2;have z2:y.v<B:=z2 O;refine⟨_,(XE h1).1,O,O,fun s' hn=>?_⟩;obtain rfl:s'=if y.v=0 then .wg .seen 1 else .wg (.wt (some y.v) y.v) 1:=hn
 rw[show(y.st:Int)=((y.v*4294967296+0:Nat):Int) by simp only[xP.st,z1]];generalize y.v=v at v0 z2⊢;clear z1 h1;refine lq rfl (gV rfl rfl)<|fD<|dI<|L.seq<|L.region rfl<|lq rfl (aP rfl rfl) ?_;refine lq O (ajq O O O dF) ?_;refine B_ (u:=.int .i32 (v:Int)) O (EP O O) (congrArg (Value.int .i32) (wgv (v:=v) (w:=0) aj aj).2.2.1) ?_;refine lq rfl (gV rfl rfl)<|fD<|dI<|L.seq<|L.region rfl<|lq rfl (aP rfl rfl) ?_;refine B_ (u:=.int .u64 0) O (UD O O O) (congrArg (Value.int .u64) (wgv (v:=v) (w:=0) aj aj).2.1) ?_;refine B_ (u:=.int .u32 0) O (EP O O) aB ?_;refine lq rfl (gV rfl rfl)<|fD<|dI<|L.seq<|L.seq<|L.region rfl<|lq rfl (aP rfl rfl) ?_;refine lq O (Xt O O O) ?_;refine fD<|dI ?_;refine L.aJ O (fun BO=>?_) (fun BO=>?_)
 ·obtain rfl:v=0:=by omega
  refine L.afn (s':=.wg .seen 1) O ?_;refine L.seq ?_;refine L.kG ?_;refine L.seq<|L.region rfl ?_;refine atJ (s':=.wg .seen 0) O (show 0<1 from Nat.one_pos) (fun x wE h=>h) ?_;refine fD<|dI<|L.region rfl<|lq rfl (aP rfl rfl) ?_;refine lcv (LA.Ym:LA) O O aB (by simp[oP,gJ]) (fun y h=>h) (by simp[ac0,gJ]) (by simp[gJ]) (fun w y h1 h2=>?_);refine⟨⟨_,(XE h1).1⟩,O,O,fun s' hn=>?_⟩;obtain rfl:s'= .wg .seen 0:=hn;refine lx (vs:=[_]) (LA.Qo:LA) O O ⟨O,O⟩ (fun y h=>h) (fun w y h1 h2=>⟨_,vW (mk:=.acquire) (by simp) O,fun s' hn=>?_⟩) (by simp[gJ]);obtain rfl:s'= .wg .out 0:=hn;refine fD<|dI<|L.seq<|L.seq<|L.region rfl<|lq rfl (aP rfl rfl) ?_;refine B_ (u:=.bool true) O (Xt O O O) O ?_;refine lq rfl (aP rfl rfl)<|lq rfl (aP rfl rfl) ?_;refine B_ (u:=.int .u64 0) O (UD O O O) aB ?_;refine B_ (u:=.bool false) O (Bh O O O) O ?_;refine lq rfl (wK rfl rfl rfl)<|lq rfl (aP rfl rfl) ?_;refine Dx ?_;refine Dx ?_;refine lq rfl (oO rfl rfl rfl)<|fD<|dI ?_;refine L.iq ?_;refine L.skip<|dI<|L.ret<|V7 ?_;refine amr ?_;refine V7 ?_;refine amr ?_;exact jX (vs:=[]) ⟨O,O⟩
 refine L.afn (s':=.wg (.wt (some v) v) 1) (if_neg aj) ?_;refine L.skip<|dI<|L.seq<|L.region rfl<|lq rfl (aP rfl rfl)<|lq rfl (dW rfl rfl)<|lq rfl (cO rfl rfl)<|lq rfl (aP rfl rfl)<|lq rfl (aP rfl rfl) ?_;refine B_ (u:=.int .u64 ((v*4294967296+1:Nat):Int)) O (aqc O O O) (congrArg (Value.int .u64) (by rw[aou aj aj];omega)) ?_;refine lc (vs:=[_,_,_]) O O (aqJ (m:=true) (γ:=γ) (s:=.wg (.wt (some v) v) 1) (b:=γ.Wg) (o:=((v*4294967296+0:Nat):Int)) (n:=((v*4294967296+1:Nat):Int)) (LA.Z_ v:LA) ⟨aj,aj,v,O⟩ (fun y h=>h) (by simp) (fun w y h1 h2=>?_)) (hd:=rfl);obtain⟨v1,-,-,z1,-,-,z3⟩:WF (.wt (some v) v) y:=h2;obtain⟨-,z3⟩:=z3 v rfl;obtain⟨c1,c2,-,-⟩:=XE h1;have e:y.st=y.v*4294967296+0:=by simp only[xP.st,z1]
 rw[e]at c1;by_cases hv:y.v=v
 ·rw[hv]at c1;refine⟨_,c1,c2,.inl ⟨O,?_,?_,fun s' hn=>?_⟩⟩
  ·show(if y.v=v then _ else _)=_;rw[if_pos hv,e,hv];rfl
  ·show(if y.v=v then _ else _)=_;rw[if_pos hv];rfl
  obtain rfl:s'= .wg .reg 1:=by have hn:s'=if y.v=v then _ else _:=hn;rw[if_pos hv]at hn;exact hn
  clear c1 c2 e z1 hv z3 v1 h1;refine fD<|dI ?_;refine L.kG ?_;refine L.seq<|L.seq<|L.region rfl<|lq rfl (aP rfl rfl)<|lq rfl (aP rfl rfl) ?_;refine B_ (u:=.bool true) O (Xt O O O) O ?_;refine lq rfl (wK rfl rfl rfl)<|fD<|dI ?_;refine L.kG ?_;refine L.region rfl<|lq rfl (aP rfl rfl)<|lq rfl (dW rfl rfl)<|lq rfl (cO rfl rfl) ?_;refine lcv (LA.Ym:LA) O O aB (by simp[oP,gJ]) (fun y h=>h) (by simp[ac0,gJ]) (by simp[gJ]) (fun w y h1 h2=>?_);refine⟨⟨_,(XE h1).2.2.1⟩,O,O,fun s' hn=>?_⟩;obtain rfl:s'= .wg .reg 1:=hn;refine lx (vs:=[_]) (LA.Ov:LA) O O O (fun y h=>h) (fun w y h1 h2=>⟨_,vW (mk:=.write) (by simp) O,fun s' hn=>?_⟩) (by simp[gJ]);obtain rfl:s'= .wg .reg 1:=hn;refine fD<|dI<|L.seq<|L.region rfl<|lq rfl (gV rfl rfl)<|fD<|dI<|L.seq<|L.seq<|L.region rfl ?_;refine lq O (aP O O) ?_;refine B_ (u:=.int .u64 0) O (UD O O O) (congrArg (Value.int .u64) (wgv (v:=v) (w:=0) aj aj).1) ?_;refine B_ (u:=.bool false) O (Bh O O O) O ?_;refine lq O (aP O O) ?_;refine Dx ?_;refine lq rfl (oO rfl rfl rfl)<|fD<|dI ?_;refine L.iq ?_;refine L.skip<|dI<|L.seq<|L.region rfl<|lq rfl (aP rfl rfl)<|lq rfl (dW rfl rfl)<|lq rfl (cO rfl rfl)<|lq rfl (aP rfl rfl) ?_;refine lxb (vs:=[_,_]) (LA.L_:LA) O O ⟨aj,O⟩ (fun w y h1 h2 h3=>?_) (fun w y h1 h2 h3=>⟨.tuple #[],?_,fun s' hn=>?_⟩) (by simp[gJ])
  ·obtain⟨-,-,c3,-⟩:=XE h1;rw[show y.ws=0 from h3]at c3;exact ajt O c3
  ·obtain⟨-,-,c3,c4⟩:=XE h1;have h3:¬y.ws=0:=h3;have:=amo (P:=aV) (f:=kX) (args:= #[.pointer (some ⟨γ.Wg,1,none⟩),.bool false]) O c3 aj c4;rw[show(y.ws:Int)-1=((y.ws-1:Nat):Int) by omega]at this;exact this
  obtain rfl:s'= .wg .seen 1:=hn;refine fD<|dI<|L.seq<|L.region rfl<|lq rfl (aP rfl rfl)<|lq rfl (dW rfl rfl)<|lq rfl (cO rfl rfl) ?_;refine lc (vs:=[_]) O O (Ro (m:=true) (γ:=γ) (s:=.wg .seen 1) (b:=γ.Wg) (LA.WO:LA) ⟨aj,O⟩ (fun y h=>h) (by simp) (fun w y h1 h2=>?_)) (hd:=rfl);obtain⟨-,-,-,z1,z2,-⟩:WF .seen y:=h2;refine⟨_,(XE h1).1,O,O,fun s' hn=>?_⟩;obtain rfl:s'= .wg .seen 1:=hn;rw[show(y.st:Int)=0 by simp only[xP.st,z1,z2];rfl];refine B_ (u:=.bool false) O (Bh O O O) O ?_;refine lq rfl (gV rfl rfl)<|fD<|dI<|L.seq ?_;refine L.kG ?_;refine L.seq<|L.region rfl ?_;refine atJ (s':=.wg .seen 0) O (show 0<1 from Nat.one_pos) (fun x wE h=>h) ?_;refine fD<|dI<|L.region rfl<|lq rfl (aP rfl rfl) ?_;refine lcv (LA.Ym:LA) O O aB (by simp[oP,gJ]) (fun y h=>h) (by simp[ac0,gJ]) (by simp[gJ]) (fun w y h1 h2=>?_);refine⟨⟨_,(XE h1).1⟩,O,O,fun s' hn=>?_⟩;obtain rfl:s'= .wg .seen 0:=hn;refine lx (vs:=[_]) (LA.Qo:LA) O O ⟨O,O⟩ (fun y h=>h) (fun w y h1 h2=>⟨_,vW (mk:=.acquire) (by simp) O,fun s' hn=>?_⟩) (by simp[gJ]);obtain rfl:s'= .wg .out 0:=hn;refine fD<|dI<|L.seq<|L.seq<|L.region rfl<|lq rfl (aP rfl rfl)<|fD<|dI ?_;refine L.iq ?_;refine L.skip<|dI<|L.ret ?_;refine amr ?_;refine V7 ?_;refine amr ?_;exact jX (vs:=[]) ⟨O,O⟩
 refine⟨_,c1,c2,.inr ⟨aj,?_,?_,fun s' hn=>?_⟩⟩
 ·show(if y.v=v then _ else _)=_;rw[if_neg hv]
 ·show(if y.v=v then _ else _)=_;rw[if_neg hv];rfl
 obtain rfl:s'= .wg (.wt none v) 1:=by have hn:s'=if y.v=v then _ else _:=hn;rw[if_neg hv]at hn;exact hn
 refine fD<|dI ?_;refine L.iq ?_;refine L.skip<|aqd<|dI ?_;exact⟨O,v,trivial,z2,⟨O,trivial⟩,O⟩
structure Mt where
 (ks:List Int) (d co wa qu:Int)
 deriving DecidableEq
structure EU(x:Mt):Prop where
 k1:1<=x.ks.length
 k3:x.ks.length<=3
 ks:∀n∈x.ks,0<=n/\n<=63
 up:x.ks.Pairwise (· < ·)
 d:0<=x.d/\x.d<=7
 co:1<=x.co/\x.co<=6
 wa:0<=x.wa/\x.wa<=3
 qu:0<=x.qu/\x.qu<=12
def yM(a:Value×Mt):List Value:=[if one a.1=true then a.1 else .bool false,I a.2.d,I a.2.co,I a.2.wa,I a.2.qu]
instance:Rw yM 5:=⟨fun _=>rfl,fun a=>by
 simp only[yM];split
 ·rename_i h;simp[lC,h];exact⟨O,O,O,O⟩
 rfl⟩
theorem Iw{x:Mt}(h:one v=true):yM (v,x)=[v,I x.d,I x.co,I x.wa,I x.qu]:=by simp[yM,h]
def abJ(b:Nat):List Value:=[aG b]
instance:Rw abJ 1:=⟨fun _=>rfl,fun _=>rfl⟩
structure uV where
 (B:Nat) (kv:Value) (x:Mt) (v:Value) (E:ah)
def uV.own(p:uV):ah:=(p.B,.cells (Ap p.kv p.x.d p.x.co p.x.wa p.x.qu 1 0 p.v) dX (0,0))::p.E
def bM(l:List uV):ah:=(l.map uV.own).flatten
abbrev mG(va nS vr vf vm vp:Value)(pass:Int)(kb:Nat):Array Value:= #[va,I pass,nS,vr,vf,vm,vp,aG kb]
def mv0:Value×Mt:=(.nilIface,⟨[],0,0,0,0⟩)
def UU(gs:List Ag)(ps:Int)(jJ:List (Value×Mt))(τ:Nat):Pan:=
 let m:=jJ.getD (τ % 4) mv0
 ⟨τ / 4,m.1,m.2.d,m.2.co,m.2.wa,m.2.qu,nH gs m.2.ks ps⟩
theorem afu{gs:List Ag}{ps:Int}{jJ:List (Value×Mt)}:∀{NZ:List Nat} {As:List ah},As.length=NZ.length->(∀(i τ:Nat) (A:ah),As[i]? =some A->NZ[i]? =some τ->∃v E,A=(UU gs ps jJ τ).own v E/\XG (UU gs ps jJ τ).w (UU gs ps jJ τ).d v E)->
  ∃l:List uV,bM l=As.flatten/\l.map (·.B)=NZ.map (· / 4)/\l.map (fun p=>(p.kv,p.x))=NZ.map (fun τ=>jJ.getD (τ % 4) mv0)/\∀p∈l,XG (nH gs p.x.ks ps) p.x.d p.v p.E
 | [],[],_,_=>⟨[],rfl,rfl,rfl,fun _ h=>by cases h⟩
 | [],_::_,h,_=>by cases h
 | _::_,[],h,_=>by cases h
 | τ::NZ,A::As,h,H=>by
  obtain⟨l,h1,h2,h3,h4⟩:=afu (NZ:=NZ) (As:=As) (by simpa using h) fun i t B hB ht=>H (i+1) t B hB ht;obtain⟨v,E,rfl,hs⟩:=H 0 τ A rfl rfl;refine⟨⟨τ / 4,(jJ.getD (τ % 4) mv0).1,(jJ.getD (τ % 4) mv0).2,v,E⟩::l,?_,?_,?_,fun p hp=>?_⟩
  ·show(_:ah)++bM l=_++As.flatten;rw[h1];rfl
  ·simp only[dQ,h2]
  ·simp only[dQ,h3]
  rcases bU.1 hp with rfl | hp
  ·exact hs
  exact h4 p hp
theorem axS{jJ:List (Value×Mt)}{NZ:List Nat}(h:NZ.map (· % 4)=List.range jJ.length):NZ.map (fun τ=>jJ.getD (τ % 4) mv0)=jJ:=by
 have e:NZ.map (fun τ=>jJ.getD (τ % 4) mv0)=(NZ.map (· % 4)).map fun i=>jJ.getD i mv0:=by rw[List.map_map];rfl
 rw[e,h];apply List.ext_getElem?;intro i;rw[iL];rcases bQ i jJ.length with hi | hi
 ·rw[List.getElem?_range hi,Option.map_some,List.getD_eq_getElem?_getD,jh hi];rfl
 rw[fM (by simpa using hi),fM hi];rfl
theorem Sl.aox{row:α->List Value}{w:Nat}[Rw row w]{X:Nat}{o:Obj}{l:List α}(H:Sl h row v l)(hz:Zs h v)(hX:h X=none):Sl (dM (Hg h) X o) row v l:=by
 obtain⟨a,cap,rfl,hx⟩:=H;refine⟨a,cap,O,fun iK=>?_⟩;obtain⟨b,off,cc,E,fz,rfl,hb,hp⟩:=hx iK;have QZ:b≠X:=fun e=>by rw[e,hX]at hb;cases hb
 exact⟨b,off,cc,E,fz,O,by rw[bJ _ _ QZ];exact aaB (hz _ _ _ _ O) hb O,hp⟩

theorem aj_(main:aN)(hS:∀S,main.ok S->∃Fin,S=Mn aV Fin)(qJ:main.b=true)(h:Hp)(va nS vr vf vm:Value)(ps:Int)(kb:Nat)(gs:List Ag)(jJ:List (Value×Mt))(o1:one nS=true)(o2:one vr=true)(o3:one vf=true)
  (hA:Sl h Ag.row va gs) (zA:Zs h va) (zU:JC gs=0) (hps:0<=ps/\ps<=63) (hM:Sl h yM vm jJ) (hk:∀p∈jJ,Sl h bY p.1 p.2.ks/\Zs h p.1/\EU p.2) (h4:jJ.length<=4):
  bG aV main Ez #[.agg #[va,I ps,nS,vr,vf,vm],aG kb] h [] (fun v F=>∃(X:Nat) (l:List uV) (vp:Value) (S:ah),v=aG X/\l.map (fun p=>(p.kv,p.x))=jJ/\(∀p∈l,XG (nH gs p.x.ks ps) p.x.d p.v p.E)/\Os dA abJ vp (l.map (·.B)) S/\
   Sb ((X,.cells (mG va nS vr vf vm vp ps kb) gB (0,0))::(S++bM l)) F):=by
 have o0:=hA.one;obtain⟨am,Lj,rfl⟩:=hM.aU;obtain⟨n,hn⟩:∃n,jJ.length=n:=⟨_,rfl⟩
 rw[hn]at hM⊢;refine bG.bH func60 [(0,.agg #[va,I ps,nS,vr,vf,.slice am n Lj]),(1,aG kb)] ?_;refine d_ ?_;refine aA.box (fun oJ=>?_);refine lg ?_;refine b_ (dw (cs:=mG va nS vr vf (.slice am n Lj) (.slice none 0 0) ps kb) O O aB) O ?_;refine aA.box (fun yg=>?_);refine aA.new (fun iI=>?_);refine lF ?_;refine aA.new (fun mX=>?_);refine qj ?_;refine W.sb (F':=(iI,.cells #[aG yg] jB (0,0))::(mX,SG Dk ⟨0,0,0⟩)::(yg,.cells (mG va nS vr vf (.slice am n Lj) (.slice none 0 0) ps kb) gB (0,0))::(oJ,.cells #[va,I ps,nS,vr,vf,.slice am n Lj] fC (0,0))::[]) (.aT (.swap ..)) ?_;refine W.freeze (b:=iI) O (fun h5 hE5 hb5 hz5=>?_);refine W.axQ ?_;refine lg ?_;refine W2.group (UR mX yg (UU gs ps jJ)) n (mG va nS vr vf (.slice am n Lj) (.slice none 0 0) ps kb) hS qJ aj (fun xJ hnX hXW=>?_);change h5 yg=none at hnX;refine W.two ?_;refine W.block ?_
 refine W.loop (σ:=Nat×List Nat×Value×ah×Nat) (fun s=>s.1+s.2.2.2.2=n/\s.2.1.map (· % 4)=List.range s.1/\Os dA abJ s.2.2.1 (s.2.1.map (· / 4)) s.2.2.2.1) (fun s=>[(17,I s.1),(16,I n),(15,.slice am n Lj),(5,aG iI),(6,aG mX)])
  (fun s=>(mX,tu 0 s.2.1 s.2.2.2.2)::(yg,bn (mG va nS vr vf (.slice am n Lj) s.2.2.1 ps kb) 8)::s.2.2.2.1) (fun s=>s.2.2.2.2) (0,[],.slice none 0 0,[],n) ⟨by simp,O,.nil .nil⟩ iw (.cons (.cons (.skip O .refl))) ?_
 rintro⟨j,NZ,vp,S,left⟩ ⟨hjl,hτ,hO⟩;simp only at hjl hτ hO⊢;refine kJ ?_;refine W.aJ O (fun c18=>?_) (fun c18=>?_)
 ·obtain⟨left,rfl⟩:∃m,left=m+1:=⟨left-1,aj⟩
  obtain⟨⟨kv,x⟩,hp,yI⟩:=has (show j<jJ.length by omega);obtain⟨b,off,c,E,fz,rfl,hb,hx,hy,hz⟩:=hM.at hp;replace hb:=hE5.1 _ _ hb;obtain⟨Tf,zks,uU⟩:=hk _ (dL hp);have okv:=Tf.one;rw[Iw okv]at hx;have Aq:c.extract (off+j*5) (off+j*5+5)= #[kv,I x.d,I x.co,I x.wa,I x.qu]:=hx;clear hx hz;have aAv:NZ.length=j:=by have:=congrArg List.length hτ;simpa using this
  obtain⟨avp,cvp,rfl⟩:=hO.aU;refine kR ?_;refine aA.new (fun zC=>?_);refine aA.Yi (vs:= #[kv,I x.d,I x.co,I x.wa,I x.qu]) ?_ (h1:=by show(one kv&&true)=true;rw[okv];rfl);refine lF ?_;refine b_ (dw (cs:=Ap kv x.d x.co x.wa x.qu 0 0 .nilIface) O O aB) O ?_;refine aA.box (fun lX=>?_);refine aA.new (fun Oi=>?_);refine gI ?_;refine W.kQ [(Oi,.cells #[aG lX] dA (0,0)),(yg,bn (mG va nS vr vf (.slice (some ⟨b,off,none⟩) n Lj) (.slice avp (NZ.map (· / 4)).length cvp) ps kb) 8)] (n:=11) O ?_;refine ay 0 ?_;refine ay 1 ?_;refine ay 2 ?_;refine ay 3 ?_;refine fJ 4 (aem O O (.inr fun F hF=>hF _ (.tail _ (.head _))) dF O) O ?_;refine ay 5 ?_;refine abl (i:=6) (cs:= #[aG lX]) (fun UW=>?_) O;refine ae (i:=7) O an O O (bV (row:=abJ) (l':=[lX]) O O O hO (.tail (.tail (.tail (.tail (.tail (.tail .all)))))) (fun h2 _ hl=>Sl.mk (hl UW _ (.head _)) O (Part.all [aG lX])) (by simp;omega) dF O (fun v' S' qm=>?_));refine⟨.inr (by repeat(first | exact aC.nil | refine aC.one zS ?_)),?_⟩;obtain⟨a5,c5,rfl⟩:=qm.aU;refine ay 8 ?_;refine ay 9 ?_
  refine Any.last (i:=10) (v:=undef) (A:=[(mX,tu 0 NZ (left+1)),(yg,bn (mG va nS vr vf (.slice (some ⟨b,off,none⟩) n Lj) (.slice avp (NZ.map (· / 4)).length cvp) ps kb) 8)]) (A':=[(mX,tu 0 NZ (left+1)),(yg,bn (mG va nS vr vf (.slice (some ⟨b,off,none⟩) n Lj) (.slice a5 (NZ.map (· / 4)++[lX]).length c5) ps kb) 8)])
   (B:=(UW,.cells #[aG lX] dA (0,0))::(Oi,.cells #[aG lX] dA (0,0))::(lX,.cells (Ap kv x.d x.co x.wa x.qu 0 0 .nilIface) dX (0,0))::(zC,.cells #[kv,I x.d,I x.co,I x.wa,I x.qu] kD (0,0))::S') aB (aK O) aB ?_ ?_ (show List.Perm ([_,_]++([_,_,_,_]++S')) ([_,_,_,_]++([_,_]++S'))from by rw[<-eF,<-eF];exact dK.append_right _) ?_ ?_
  ·rfl
  ·exact fun c h=>by cases h
  ·intro B' Q' gW iT azG LD H;refine aA.Oz (γ:=UR mX yg (UU gs ps jJ)) (m:=8) (u:=.slice a5 (NZ.map (· / 4)++[lX]).length c5) (tt:=0) (jj:=NZ) (ll:=left+1) (fun _ h=>h) O (aK O) O wn O (by rw[<-t_,LD,t_];rfl) (by rw[<-t_,LD,t_];rfl) O (Nat.le_of_ble_eq_true O) O aB (.head _) (.tail .head) ?_;exact H
  refine az ?_;refine gI ?_;refine owa (UR mX yg (UU gs ps jJ)) (vs:=[aG mX,I 1]) (fun _ h=>h) O O O O amY .head ?_
  have hT:UU gs ps jJ (4*lX+j)=⟨lX,kv,x.d,x.co,x.wa,x.qu,nH gs x.ks ps⟩:=by
   have e1:(4*lX+j) % 4=j:=by omega
   have e2:(4*lX+j) / 4=lX:=by omega
   unfold UU;rw[e1,e2,List.getD_eq_getElem?_getD,hp];rfl
  refine gI ?_;refine aA.sb (F':=[(lX,.cells (Ap kv x.d x.co x.wa x.qu 0 0 .nilIface) dX (0,0)),(Oi,.cells #[aG lX] dA (0,0))]++((yg,bn (mG va nS vr vf (.slice (some ⟨b,off,none⟩) n Lj) (.slice a5 (NZ.map (· / 4)++[lX]).length c5) ps kb) 8)::(mX,tu 1 NZ (left+1))::S')) (.trans (.aT ((List.reverse_perm [(mX,tu 1 NZ (left+1)),_,_,_]).append_right S')) (.cons (.cons (.skip O (.cons (.cons (.skip O .refl))))))) ?_;refine owg (UR mX yg (UU gs ps jJ)) (4*lX+j) (A:=[(lX,.cells (Ap kv x.d x.co x.wa x.qu 0 0 .nilIface) dX (0,0)),(Oi,.cells #[aG lX] dA (0,0))]) (vs:=[]) (fun _ h=>h) rfl rfl rfl rfl (fun b o hb=>by rcases bU.1 hb with hb | hb;(cases hb;rfl);(cases dP.1 hb;rfl)) (.tail .head) (.head _) (Nat.le_of_ble_eq_true rfl) (fun kc M apZ=>?_) ?_
  ·have iK:iI≠yg:=fun e=>by rw[e,hnX]at hb5;cases hb5
   refine opener (dM (Hg h5) yg (bn (mG va nS vr vf (.slice (some ⟨b,off,none⟩) n Lj) (.slice a5 (NZ.map (· / 4)++[lX]).length c5) ps kb) 6)) (UU gs ps jJ) (4*lX+j) mX yg iI Oi _ _ va ps kc M (by rw[bJ _ _ iK];exact aaB hz5 hb5 O) (.inl ⟨(mG va nS vr vf (.slice (some ⟨b,off,none⟩) n Lj) (.slice a5 (NZ.map (· / 4)++[lX]).length c5) ps kb),6,bP _ _ _,dF,O⟩) (.inl ⟨(mG va nS vr vf (.slice (some ⟨b,off,none⟩) n Lj) (.slice a5 (NZ.map (· / 4)++[lX]).length c5) ps kb),6,bP _ _ _,dF,O⟩) ?_ ?_ ?_
   ·rw[hT];intro l hl;have:=DK (Iq.xE zU).len hl;have hd:0<=x.d/\x.d<=7:=uU.d;simp only;omega
   ·rw[hT];exact fun h' TA=>amW _ h' gs x.ks ps va kv (((hA.ext hE5).aox (zA.ext hE5) hnX).ext TA) (((Tf.ext hE5).aox (zks.ext hE5) hnX).ext TA) zU uU.k1 uU.k3 uU.ks hps
   rw[hT];exact apZ
  refine aA.nil<|iE<|fH<|W.region rfl ?_;refine gI ?_;refine⟨O,(j+1,NZ++[4*lX+j],_,S',left),⟨by simp only;omega,?_,?_⟩,by simp only;omega,iw,.aT (.swap ..)⟩
  ·simp only[List.map_append,hτ,dQ,List.map_nil,List.range_succ]
   congr 2;omega
  simp only[List.map_append,dQ,List.map_nil,show(4*lX+j) / 4=lX by omega];exact qm
 obtain rfl:left=0:=by omega
 obtain rfl:j=n:=by omega
 obtain⟨avp,cvp,rfl⟩:=hO.aU;refine jk ?_;refine owt (UR mX yg (UU gs ps jJ)) (vs:=[aG mX]) (fun _ h=>h) O O O O am1 .head (fun o=>.tail .head) hXW (fun As hlen hR=>?_);obtain⟨l,h1,h2,h3,VX⟩:=afu hlen hR;rw[<-hn]at hτ;rw[axS hτ]at h3;refine aA.sb (F':=(mX,wW)::(yg,.cells (mG va nS vr vf (.slice am j Lj) (.slice avp (NZ.map (· / 4)).length cvp) ps kb) gB (0,0))::(S++As.flatten)) (.aT (show List.Perm ((_::_::S)++As.flatten) (As.flatten++(_::_::S))from dK)) ?_;refine jk ?_;refine⟨.inr O,_,O,?_⟩;rw[<-h1,<-h2];rw[<-h2]at hO;exact iQ (vs:=[aG yg]) ⟨yg,l,_,S,O,h3,VX,hO,.refl⟩
structure oU where
 (X:Nat) (va nS vr vf vm vp:Value) (ps:Int) (kb:Nat) (gs:List Ag) (l:List uV) (fs:List Fl)
def oU.w(M:oU)(x:Mt):Option (List Int):=nH M.gs x.ks M.ps
def oU.C(M:oU):Array Value:=mG M.va M.nS M.vr M.vf M.vm M.vp M.ps M.kb
structure oU.At(M:oU)(h:Hp):Prop where
 cx:∃E z,h M.X=some (.cells M.C E z)
 vp:Sl h abJ M.vp (M.l.map (·.B))
 st:∀p∈M.l,XG (M.w p.x) p.x.d p.v p.E
 n4:M.l.length<=4
 ok:∀p∈M.l,EU p.x
 ck:JC M.gs=0
 mv:Sl h yM M.vm (M.l.map fun p=>(p.kv,p.x))
 fl:Sl h Fl.row M.vf M.fs
 zf:Zs h M.vf
 fk:dU M.fs []=0
 g0:∃E z,h 0=some (.cells #[QI kC] E z)
 z0:h.z 0
variable{M:oU}
theorem oU.At.ext{h':Hp}(H:M.At h)(hE:Ext h h'):M.At h':=
 ⟨H.cx.imp fun _ ⟨z,e⟩=>⟨z,hE.1 _ _ e⟩,H.vp.ext hE,H.st,H.n4,H.ok,H.ck,H.mv.ext hE,H.fl.ext hE,H.zf.ext hE,H.fk,H.g0.imp fun _ ⟨z,e⟩=>⟨z,hE.1 _ _ e⟩,hE.2 _ H.z0⟩
theorem r_.of{main:aN}(hS:∀S,main.ok S->∃Fin,S=Mn aV Fin)(qJ:main.b=true):r_ aV main:=fun S h=>by
 obtain⟨Fin,rfl⟩:=hS S h;rw[qJ];exact Zi.mnd
theorem N7{l:List uV}{p:uV}(h:l[i]? =some p):((([(p.B,Obj.cells (Ap p.kv p.x.d p.x.co p.x.wa p.x.qu 1 0 p.v) dX (0,0))]:ah)++(p.E++(bM (l.take i)++bM (l.drop (i+1)))))).Perm (bM l):=by
 have hi:i<l.length:=by
  rcases bQ i l.length with h' | h'
  ·exact h'
  rw[fM h']at h;cases h
 have e:l=l.take i++(p::l.drop (i+1)):=by
  have:p::l.drop (i+1)=l.drop i:=by
   rw[List.drop_eq_getElem_cons hi];rw[jh hi]at h
   cases h;rfl
  rw[this,List.take_append_drop]
 have e2:bM l=bM (l.take i)++(p.own++bM (l.drop (i+1))):=by
  conv=>lhs;rw[e]
  simp only[bM,List.map_append,dQ,List.flatten_append,List.flatten_cons]
 rw[e2];show(p.own++(bM (l.take i)++bM (l.drop (i+1)))).Perm _;rw[<-eF,<-eF];exact dK.append_right _
theorem Ja{main:aN}(hP:r_ aV main)(h:Hp)(X:Nat){l:List uV}{p:uV}(hp:l[i]? =some p):bG aV main qG #[aG X,aG p.B] h (bM l) (fun u F=>u=p.v/\Sb (bM l) F):=by
 refine bG.perm (N7 hp) (bG.mono (bG.frame fun h' _ _=>adW main hP h' X p.B p.kv p.v p.x.d p.x.co p.x.wa p.x.qu) ?_);rintro v F ⟨A',⟨rfl,hs⟩,rfl⟩;exact⟨O,.trans (.aT (N7 hp).symm) (hs.app .refl)⟩

instance:MV aV oG "muscovado/month.cleared" u_:=MV.row aB aB
instance:MV aV zx "muscovado/month.cleared" uD:=MV.row aB aB
theorem abK(main:aN)(h:Hp)(u:Value):Pu aV main u_ #[u] h (.bool true):=by
 refine bG.gX func223 O (Nat.le_of_ble_eq_true O) [(0,u)] ⟨O,trivial⟩ ?_;refine d_ ?_;refine aA.box (fun vg=>?_);refine jk ?_;exact lQ O
theorem abL(main:aN)(h:Hp)(u:Value):Pu aV main uD #[u] h (.bool false):=by
 refine bG.gX func224 O (Nat.le_of_ble_eq_true O) [(0,u)] ⟨O,trivial⟩ ?_;refine d_ ?_;refine aA.box (fun vg=>?_);refine jk ?_;exact lQ O
section
variable{main:aN}{fn:FuncId}{m:Nat}{ro:Option Nat}{h:Hp}{Q:fO}{ρ:Env}{ds:List Deferred}{F:ah}{ops:Array Oper}{i:Nat}{rest:List Nat}{d:Tmp}{ty:TypeId}{pos:String}{bW:Array Edge}{g:Option (Nat×Bool)}{y:Operand}{ts:Array TypeId}
theorem ccl{w:Option (List Int)}{dd:Int}(H:XG w dd v E)(K:aA ⟨aV,main,fn,m,ro,h⟩ ops rest Q ((d,.bool w.isSome)::ρ) ds F)(ho:dS ops.toList i=some ⟨some d,.call ⟨.invoke y "muscovado/month.cleared", #[],ts⟩,ty,pos,bW,g⟩:=by rfl)(hy:ev ρ y=some v:=by rfl)(hw:gY ops ρ ⟨some d,.call ⟨.invoke y "muscovado/month.cleared", #[],ts⟩,ty,pos,bW,g⟩:=by first | exact wn | exact aI rfl rfl rfl)(hd:Nat.blt d m=true:=by rfl):aA ⟨aV,main,fn,m,ro,h⟩ ops (i::rest) Q ρ ds F:=by
 cases w with
 | none=>
  obtain⟨rfl,-⟩:=H;exact ci (args:=[]) (vs:=[]) (fun h' _ _=>abL _ h' _) K ho hy O hw hd
 | some l=>
  obtain⟨s,rfl,-⟩:=H;exact ci (args:=[]) (vs:=[]) (fun h' _ _=>abK _ h' _) K ho hy O hw hd
end
theorem XG.some{w:Option (List Int)}{d:Int}{l:List Int}(H:XG w d v E)(h:w=some l):∃sa sc,v= .iface oG (.agg #[.slice sa l.length sc,I (d+l.length)])/\Rn E (.slice sa l.length sc) l:=by
 subst h;obtain⟨s,rfl,hR⟩:=H;obtain⟨sa,sc,rfl⟩:=hR.sl;exact⟨sa,sc,O,hR⟩

def Wl(M:oU)(x:Mt):Int:=x.d+((M.w x).getD []).length
def Ll(M:oU)(i:Int):Int:=match M.l[i.toNat]? with
 | some p=>Wl M p.x
 | none=>0
def Gj(M:oU)(i:Nat):Bool:=match M.l[i]? with
 | some p=>(M.w p.x).isSome
 | none=>false
def QL(M:oU)(k:Nat):List Nat:=(List.range k).filter (Gj M)
def nZ(M:oU):List Int:=JQ (Ll M) (zs (QL M M.l.length))
theorem Zw(h:a∈zs (QL M k)):∃(i:Nat) (p:uV) (l:List Int),a=(i:Int)/\i<k/\M.l[i]? =some p/\M.w p.x=some l:=by
 simp only[zs,QL,List.mem_map,List.mem_filter,List.mem_range]at h;obtain⟨i,⟨h1,h2⟩,rfl⟩:=h;unfold Gj at h2;split at h2
 ·rename_i p hp;obtain⟨l,hl⟩:=iJ.1 h2;exact⟨i,p,l,O,h1,hp,hl⟩
 cases h2
theorem oU.At.day(H:M.At h){p:uV}{l:List Int}(hp:M.l[i]? =some p)(hw:M.w p.x=some l):Ll M i=p.x.d+l.length/\0<=p.x.d+l.length/\p.x.d+(l.length:Int)<=12:=by
 have h1:=DK (Iq.xE H.ck).len hw;have h2:=(H.ok p (dL hp)).d;refine⟨?_,aj,aj⟩;simp only[Ll,Int.toNat_natCast,hp,Wl,hw,Option.getD_some]

theorem ag5{main:aN}(hP:r_ aV main)(h:Hp)(M:oU)(H:M.At h){p q:uV}{l l':List Int}(hp:M.l[i]? =some p)(hq:M.l[k]? =some q)(hw:M.w p.x=some l)(hw':M.w q.x=some l'):
  bG aV main yA #[aG M.X,I i,I k] h (bM M.l) (fun v F=>v=I (Ll M i-Ll M k)/\Sb (bM M.l) F):=by
 obtain⟨sa,sc,hv,-⟩:=(H.st p (dL hp)).some hw;obtain⟨sa',sc',hv',-⟩:=(H.st q (dL hq)).some hw';obtain⟨hd,hd1,hd2⟩:=H.day hp hw;obtain⟨IK,aAw,aAx⟩:=H.day hq hw';obtain⟨EX,zX,hX⟩:=H.cx;unfold oU.C at hX;have Oj:=H.vp;obtain⟨av,cv',ev'⟩:=Oj.aU;rw[List.length_map]at ev';rw[ev']at Oj hX;obtain⟨b,off,c,E,fz,rfl,hb,hx,hy,hz⟩:=Oj.at (show(M.l.map (·.B))[i]? =some p.B by rw[iL,hp];rfl);obtain⟨b2,atb,c2,E2,fz2,ea2,PW,hx2,hy2,hz2⟩:=Oj.at (show(M.l.map (·.B))[k]? =some q.B by rw[iL,hq];rfl)
 cases ea2
 rw[hb]at PW
 cases PW
 have hi:i<M.l.length:=by
  rcases bQ i M.l.length with h' | h'
  ·exact h'
  rw[fM h']at hp;cases hp
 have hk:k<M.l.length:=by
  rcases bQ k M.l.length with h' | h'
  ·exact h'
  rw[fM h']at hq;cases hq
 have Aq:c[off+i*1]? =some (aG p.B):=hz 0 dF;have aAy:c[off+k*1]? =some (aG q.B):=hz2 0 dF;clear hx hz hx2 hz2;refine bG.bH func94 [(0,aG M.X),(1,I i),(2,I k)] ?_;refine Qs ?_;refine cg (A:=bM M.l) .all (fun h' hE hL=>Ja hP h' M.X hp) (fun v A' hv=>?_);obtain⟨rfl,bF⟩:=hv;refine aA.sb bF ?_;rw[hv];refine b_ (yta (v:=.tuple #[.agg #[.slice sa l.length sc,I (p.x.d+l.length)],.bool true]) aB O O) O ?_;refine gI ?_;refine aA.new (fun yc=>?_);refine CW ?_;refine cg (A:=bM M.l) (.tail .all) (fun h' hE hL=>Ja hP h' M.X hq) (fun v A' hv=>?_);obtain⟨rfl,bF⟩:=hv;refine aA.sb (.cons bF) ?_;rw[hv'];refine b_ (yta (v:=.tuple #[.agg #[.slice sa' l'.length sc',I (q.x.d+l'.length)],.bool true]) aB O O) O ?_;refine gI ?_;refine aA.new (fun Oi=>?_);refine CW ?_;rw[hd,IK];exact iQ (vs:=[_]) ⟨O,.skip O (.skip O .refl)⟩

theorem akb{main:aN}(hP:r_ aV main)(h:Hp)(M:oU)(H:M.At h):bG aV main KE #[aG M.X] h (bM M.l) (fun v F=>∃S,Os aX bY v (nZ M) S/\Sb (S++bM M.l) F):=by
 obtain⟨EX,zX,hX⟩:=H.cx;unfold oU.C at hX;have Oj:=H.vp;have hn4:=H.n4;obtain⟨av,cv',ev'⟩:=Oj.aU;rw[List.length_map]at ev';rw[ev']at Oj hX;refine bG.bH func66 [(0,aG M.X)] ?_;refine awM ?_;refine W.loop (σ:=Nat×Value×ah) (fun s=>s.1<=M.l.length/\Os aX bY s.2.1 (zs (QL M s.1)) s.2.2) (fun s=>[(11,I s.1),(10,I M.l.length),(9,.slice av M.l.length cv'),(0,aG M.X),(3,s.2.1)]) (fun s=>s.2.2++bM M.l) (fun s=>M.l.length-s.1) (0,.slice none 0 0,[]) ⟨Nat.zero_le _,.nil .nil⟩ iw .refl ?_;rintro⟨k,v,S⟩ ⟨hk,hO⟩;simp only at hk hO⊢;have hlen:(QL M k).length<=k:=Nat.le_trans (List.length_filter_le ..) (by simp);refine kJ ?_;refine W.aJ O (fun OZ=>?_) (fun OZ=>?_)
 ·have zI:k<M.l.length:=by omega
  obtain⟨p,hp,yI⟩:=has zI;obtain⟨b,off,c,E,fz,rfl,hb,hx,hy,hz⟩:=Oj.at (show(M.l.map (·.B))[k]? =some p.B by rw[iL,hp];rfl);have Aq:c[off+k*1]? =some (aG p.B):=hz 0 dF;clear hx hz;obtain⟨sv,cv,rfl⟩:=hO.aU;have fP:=H.st p (dL hp)
  have ZG:QL M (k+1)=if(M.w p.x).isSome then QL M k++[k]else QL M k:=by
   unfold QL;rw[List.range_succ,List.filter_append];have e:Gj M k=(M.w p.x).isSome:=by unfold Gj;rw[hp]
   cases hs:(M.w p.x).isSome <;>simp[e,hs]
  refine Qv ?_;refine cg (A:=bM M.l) (.app .all) (fun h' hE hL=>Ja hP h' M.X hp) (fun v A' hv=>?_);obtain⟨rfl,bF⟩:=hv;refine aA.sb (.app .refl bF) ?_;refine ccl fP ?_;refine qj ?_;refine W.cond O (fun BO=>?_) (fun BO=>?_)
  ·rw[if_pos BO]at ZG;refine gI ?_;refine aA.zZ (cs:= #[I k]) (fun pW=>?_) O;refine oe O wn O O (bV (row:=bY) (l':=[(k:Int)]) O O O hO (.tail .head) (fun h2 _ hl=>Sl.mk (hl pW _ (.head _)) O (Part.all [I k])) (by rw[rZ];simp;omega) dF O (fun v' S' xM=>?_));refine zW rfl rfl rfl<|aA.nil<|iE<|fH<|W.region rfl ?_;refine gI ?_;exact⟨O,(k+1,v',S'),⟨by simp only;omega,by simp only;rw[ZG,Zh];exact xM⟩,by simp only;omega,iw,.skip O .refl⟩
  rw[if_neg (by rw[BO];exact Bool.false_ne_true)]at ZG;refine jk ?_;exact⟨O,(k+1,_,S),⟨by simp only;omega,by simp only;rw[ZG];exact hO⟩,by simp only;omega,iw,.refl⟩
 obtain rfl:k=M.l.length:=by omega
 obtain⟨sv,cv,rfl⟩:=hO.aU;refine gZ ?_;refine cg (A:=S++bM M.l) .all (fun h' hE hL=>JR main h' (Ll M) (zs (QL M M.l.length)) _ _ S (bM M.l) hO (by rw[rZ];omega) fun h2 e x y hx hy=>?_) (fun v A' hv=>?_)
 ·obtain⟨i,p,l,rfl,-,hp,hw⟩:=Zw hx;obtain⟨j,q,l',rfl,-,hq,hw'⟩:=Zw hy;exact gG.o9 (f:=yA) (fi:=[aG M.X]) (ca:=[]) (ag5 hP h2 M ((H.ext hE).ext e) hp hq hw hw')
 obtain⟨B,hB,bF⟩:=hv;refine jk ?_;exact iQ (vs:=[_]) ⟨B,hB,bF⟩
def stI(M:oU)(i:Int):St:=match M.l[i.toNat]? with
 | some p=>⟨Wl M p.x,p.x.co,p.x.wa⟩
 | none=>⟨0,0,0⟩
def stM(M:oU):List St:=(nZ M).map (stI M)
theorem Rq(h:a∈nZ M):∃(i:Nat) (p:uV) (l:List Int),a=(i:Int)/\i<M.l.length/\M.l[i]? =some p/\M.w p.x=some l:=Zw ((pI _ _).subset h)
theorem Rt:(nZ M).length<=M.l.length:=by
 unfold nZ;rw[(pI _ _).length_eq,rZ];exact Nat.le_trans (List.length_filter_le ..) (by simp)
theorem oU.At.Zx(H:M.At h){p:uV}{l:List Int}(hp:M.l[i]? =some p)(hw:M.w p.x=some l):stI M i=⟨p.x.d+l.length,p.x.co,p.x.wa⟩:=by
 simp only[stI,Int.toNat_natCast,hp,Wl,hw,Option.getD_some]

theorem N8{main:aN}(hP:r_ aV main)(h:Hp)(M:oU)(H:M.At h):bG aV main KD #[aG M.X] h (bM M.l) (fun v F=>∃vs S vo S2,v= .tuple #[.agg #[M.vf,vs],vo]/\Os pG St.row vs (stM M) S/\Os aX bY vo (nZ M) S2/\Sb (S++(S2++bM M.l)) F):=by
 obtain⟨EX,zX,hX⟩:=H.cx;unfold oU.C at hX;have Oj:=H.vp;have hmv:=H.mv;have hn4:=H.n4;have hol:=Rt (M:=M);obtain⟨av,cv',ev'⟩:=Oj.aU;obtain⟨am,cm,em⟩:=hmv.aU;obtain⟨af,cf,ef⟩:=H.fl.aU;rw[List.length_map]at ev' em;rw[ev']at Oj hX;rw[em]at hmv hX;rw[ef]at hX⊢;refine bG.bH func43 [(0,aG M.X)] ?_;refine d_ ?_;refine aA.new (fun oJ=>?_);refine gZ ?_;refine aA.new (fun mW=>?_);refine kJ ?_;refine cg (A:=bM M.l) (.tail (.tail .all)) (fun h' hE hL=>akb hP h' M (H.ext hE)) (fun v A' hv=>?_);obtain⟨S2,Ci,bF⟩:=hv;obtain⟨a2,c2,rfl⟩:=Ci.aU;refine aA.sb (.cons (.cons bF)) ?_;refine gZ ?_
 refine W.loop (σ:=Nat×Value×ah) (fun s=>s.1<=(nZ M).length/\Os pG St.row s.2.1 ((stM M).take s.1) s.2.2) (fun s=>[(20,I s.1),(19,I (nZ M).length),(18,.slice a2 (nZ M).length c2),(5,.slice a2 (nZ M).length c2),(0,aG M.X),(4,aG mW),(2,aG oJ)])
  (fun s=>(mW,.cells #[.slice af M.fs.length cf,s.2.1] j_ (0,0))::(oJ,.cells #[.slice none 0 0,.slice none 0 0] j_ (0,0))::(s.2.2++(S2++bM M.l))) (fun s=>(nZ M).length-s.1) (0,.slice none 0 0,[]) ⟨Nat.zero_le _,.nil .nil⟩ iw .refl ?_
 rintro⟨k,v,S⟩ ⟨hk,hO⟩;simp only at hk hO⊢;have P7:(stM M).length=(nZ M).length:=by simp[stM]
 refine kJ ?_;refine W.aJ O (fun Oh=>?_) (fun Oh=>?_)
 ·have zI:k<(nZ M).length:=by omega
  obtain⟨a,ha,yI⟩:=has zI;obtain⟨i,p,l,rfl,Gp,hp,hw⟩:=Rq (dL ha);obtain⟨hd,hd1,hd2⟩:=H.day hp hw;obtain⟨sa,sc,hv,-⟩:=(H.st p (dL hp)).some hw;have axT:=H.Zx hp hw
  have Gt:(stM M).take (k+1)=(stM M).take k++[⟨p.x.d+l.length,p.x.co,p.x.wa⟩]:=by
   rw[List.take_add_one,stM,iL,ha,<-axT];rfl
  rcases id Ci with⟨he,-⟩ | ⟨βo,cc,f_,Jo,he,rfl,IW,DN,hpt,hJo⟩
  ·rw[he]at zI;cases zI
  cases he
  have hcv:cc[0+k*1]? =some (I i):=Part.TM hpt (i:=k) (p:=(i:Int)) ha 0 dF;obtain⟨b,off,c,E,fz,rfl,hb,hx,hy,hz⟩:=Oj.at (show(M.l.map (·.B))[i]? =some p.B by rw[iL,hp];rfl);have Aq:c[off+i*1]? =some (aG p.B):=hz 0 dF;clear hx hz;obtain⟨bm,om,cmm,Em,fm,rfl,hbm,hxm,hym,hzm⟩:=hmv.at (show(M.l.map fun p=>(p.kv,p.x))[i]? =some (p.kv,p.x) by rw[iL,hp];rfl);have hm2:cmm[om+i*5+2]? =some (I p.x.co):=hzm 2 dF;have hm3:cmm[om+i*5+3]? =some (I p.x.wa):=hzm 3 dF;clear hxm hzm;obtain⟨asv,csv,rfl⟩:=hO.aU;refine jk ?_;refine b_ (CG O O (.inr fun _ e=>by subst e;exact .tail _ (.tail _ (bZ _ (.head _)))) hcv) O ?_;refine oz ?_;refine cg (A:=bM M.l) (.tail (.tail (.app (.app .all)))) (fun h' hE hL=>Ja hP h' M.X hp) (fun v A' hv=>?_);obtain⟨rfl,axY⟩:=hv;refine aA.sb (.cons (.cons (.app .refl (.app .refl axY)))) ?_;rw[hv];refine lF ?_;refine b_ (yta (v:=.tuple #[.agg #[.slice sa l.length sc,I (p.x.d+l.length)],.bool true]) aB O O) O ?_;refine gI ?_;refine W.kG ?_;refine d_ ?_;refine aA.new (fun zC=>?_);refine d_ ?_;refine W.kQ [(zC,.cells #[.slice sa l.length sc,I (p.x.d+l.length)] oG (0,0)),(mW,.cells #[.slice af M.fs.length cf,.slice asv ((stM M).take k).length csv] j_ (0,0))] (n:=27) O ?_;refine ay 0 ?_;refine ay 1 ?_;refine ay 2 ?_;refine ay 3 ?_;refine ay 4 ?_;refine ay 5 ?_;refine ay 6 ?_;refine ay 7 ?_;refine ay 8 ?_;refine ay 9 ?_;refine ay 10 ?_;refine ay 11 ?_;refine ay 12 ?_;refine ay 13 ?_;refine ay 14 ?_;refine ay 15 ?_;refine ay 16 ?_;refine ay 17 ?_;refine ay 18 ?_;refine ay 19 ?_;refine ay 20 ?_;refine ay 21 ?_;refine ay 22 ?_;refine abl (i:=23) (cs:= #[I (p.x.d+l.length),I p.x.co,I p.x.wa]) (fun axZ=>?_) O (hf:=by kernel_rfl);refine ae (i:=24) O an O O (bV (row:=St.row) (l':=[(⟨p.x.d+l.length,p.x.co,p.x.wa⟩:St)]) O O O hO (.tail (.tail (.tail (.tail .head)))) (fun h2 _ hl=>Sl.mk (hl axZ _ (.head _)) O (Part.all (St.row ⟨p.x.d+l.length,p.x.co,p.x.wa⟩))) (by simp;omega) dF O (fun v' S' xM=>?_));refine⟨.inr (by repeat(first | exact aC.nil | refine aC.one zS ?_)),?_⟩;obtain⟨a5,c5,rfl⟩:=xM.aU;refine ay 25 ?_;refine ae (i:=26) O an O O (eS O O O ?_);refine⟨.inl aB,?_⟩;refine az ?_;refine jk ?_;exact⟨O,(k+1,_,S'),⟨by simp only;omega,by simp only;rw[Gt];exact xM⟩,by simp only;omega,iw,.skip O (.skip O .refl)⟩
 obtain rfl:k=(nZ M).length:=by omega
 rw[show(nZ M).length=(stM M).length from P7.symm,List.take_length]at hO;obtain⟨asv,csv,rfl⟩:=hO.aU;refine CW ?_;exact AY (vs:=[.agg #[.slice af M.fs.length cf,.slice asv (stM M).length csv],.slice a2 (nZ M).length c2]) ⟨_,S,_,S2,O,hO,Ci,.skip O (.skip O .refl)⟩
theorem Lm{b:Int}(h0:0<=a)(h1:a<=100000)(h2:0<=b)(h3:b<=100000):BQ a b=a+b:=AA aj aj
def DR(g:Nat->Int):Nat->Int
 | 0=>0
 | k+1=>DR g k+g k
theorem Zy{g g':Nat->Int}:∀{k:Nat},(∀i,i<k->g i<=g' i)->DR g k<=DR g' k
 | 0,_=>Int.le_refl _
 | k+1,h=>by
  have h1:=Zy (k:=k) fun i hi=>h i aj;have h2:=h k aj;simp only[DR];omega
theorem EW{g g':Nat->Int}:∀{k:Nat},(∀i,i<k->g i=g' i)->DR g k=DR g' k
 | 0,_=>rfl
 | k+1,h=>by
  have h1:=EW (k:=k) fun i hi=>h i aj;have h2:=h k aj;simp only[DR];omega
def hiG(fs:List Fl)(ss:List St)(p:List Be)(f d:Int)(i:Nat):Int:=if(dB p i).fl=f/\(dB p i).day<=d/\d<(dB p i).day+(jr fs f).hi then(ru ss i).co else 0
def loG(fs:List Fl)(ss:List St)(p:List Be)(f d:Int)(i:Nat):Int:=if(dB p i).fl=f/\(dB p i).day<=d/\d<(dB p i).day+(jr fs f).lo then(ru ss i).co else 0
def adX(fs:List Fl)(ss:List St)(p:List Be)(f d:Int):Int:=DR (hiG fs ss p f d) 4
def auq(fs:List Fl)(ss:List St)(p:List Be)(f d:Int):Int:=DR (loG fs ss p f d) 4

theorem am3{d:List Sp}{b:Bool}{co:Int}{s:Sp}(h:d[j]? =some s):(bump d i b co)[j]? =some (if i=j then⟨if b then BQ s.lo co else s.lo,BQ s.hi co⟩else s):=by
 by_cases e:i=j
 ·subst e
  have fK:i<d.length:=by
   rcases bQ i d.length with h' | h'
   ·exact h'
   rw[fM h']at h;cases h
  simp only[bump,h,if_true,List.getElem?_set_self fK]
 rw[if_neg e];unfold bump;split
 ·rw[List.getElem?_set_ne e,h]
 exact h
theorem abN{day lo co:Int}(agj:0<=day)(hc:0<=co/\co<=1000){j:Nat}(hj:j<22):∀(m n:Nat) (D:List Sp) (s:Sp),D[j]? =some s->(day+n<=j->0<=s.lo/\s.lo<=90000/\0<=s.hi/\s.hi<=90000)->
  (pK day lo co m n D)[j]? =some (if day+n<=j/\(j:Int)<day+n+m then⟨if(j:Int)<day+lo then s.lo+co else s.lo,s.hi+co⟩else s)
 | 0,n,D,s,h,_=>by
  rw[pK,h,if_neg aj]
 | m+1,n,D,s,h,hs=>by
  rw[pK];split
  ·rw[h,if_neg aj]
  rename_i h21;have hb:=am3 (i:=(day+n).toNat) (b:=decide ((n:Int)<lo)) (co:=co) h;have ih:=abN (lo:=lo) agj hc hj m (n+1) _ _ hb (fun hle=>by rw[if_neg aj];exact hs aj);rw[ih];by_cases e:(day+n).toNat=j
  ·have e':day+n=j:=by omega
   obtain⟨q1,q2,q3,q4⟩:=hs aj;have c1:¬(day+((n+1:Nat):Int)<=j/\(j:Int)<day+((n+1:Nat):Int)+(m:Nat)):=by omega
   have c2:day+(n:Int)<=j/\(j:Int)<day+(n:Int)+((m+1:Nat):Int):=by omega
   rw[if_pos e,if_neg c1,if_pos c2,Lm q1 aj hc.1 aj,Lm q3 aj hc.1 aj];by_cases hl:(n:Int)<lo
   ·rw[if_pos (show decide ((n:Int)<lo)=true by simpa using hl),if_pos (show(j:Int)<day+lo by omega)]
   rw[if_neg (show¬decide ((n:Int)<lo)=true by simpa using hl),if_neg (show¬(j:Int)<day+lo by omega)]
  rw[if_neg e];by_cases ZJ:day+n<=j/\(j:Int)<day+n+((m+1:Nat):Int)
  ·rw[if_pos (show day+((n+1:Nat):Int)<=j/\(j:Int)<day+((n+1:Nat):Int)+(m:Nat) by omega),if_pos ZJ]
  rw[if_neg (show¬(day+((n+1:Nat):Int)<=j/\(j:Int)<day+((n+1:Nat):Int)+(m:Nat)) by omega),if_neg ZJ]

theorem akd(g:α->Int){l l':List α}(h:l.Perm l'):(l.map g).sum=(l'.map g).sum:=by
 induction h with
 | nil=>rfl
 | cons x _ ih=>simp only[dQ,List.sum_cons,ih]
 | swap x y l=>simp only[dQ,List.sum_cons];omega
 | trans _ _ ih1 ih2=>exact ih1.trans ih2
theorem UY{p:List Be}{f:Int}{g:Int->Int}:∀(k:Nat),((yJ p f k).map g).sum=DR (fun i=>if(dB p i).fl=f then g i else 0) k
 | 0=>rfl
 | k+1=>by
  simp only[yJ,DR];by_cases h:(dB p k).fl=f
  ·rw[if_pos h,if_pos h,List.map_append,List.sum_append,UY k];simp
  rw[if_neg h,if_neg h,UY k];simp
theorem afv(aO:dV fs ss)(i:Nat):0<=(ru ss i).co/\(ru ss i).co<=6:=by
 simp only[ru,List.getD]
 cases h:ss[i]? with
 | none=>simp
 | some s=>have:=aO.st s (dL h);simp;omega
theorem abO(hp:Ak p)(i:Nat):0<=(dB p i).day/\(dB p i).day<=17:=by
 rcases bQ i 4 with h | h
 ·have:=(nG hp h).2;omega
 simp[dB,List.getD,fM (show p.length<=i by have:=hp.len;omega),fZ]
theorem aoy(aO:dV fs ss)(h0:0<=f)(h1:f<fs.length):1<=(jr fs f).pl/\(jr fs f).pl<=9/\1<=(jr fs f).lo/\(jr fs f).lo<=(jr fs f).hi/\(jr fs f).hi<=6/\0<=(jr fs f).co/\(jr fs f).co<=9:=by
 obtain⟨x,hx,-⟩:=has (show f.toNat<fs.length by omega);have:jr fs f=x:=by simp[jr,List.getD,hx]
 rw[this];exact aO.fl x (dL hx)

theorem zN(aO:dV fs ss)(hp:Ak p)(h0:0<=f)(h1:f<fs.length)(hj:j<22):(mY fs ss p f)[j]? =some ⟨auq fs ss p f j,adX fs ss p f j⟩:=by
 have CV:=aoy aO h0 h1
 have key:∀(l:List Int) (D:List Sp) (s:Sp),D[j]? =some s->0<=s.lo->0<=s.hi->s.lo+6*l.length<=9000->s.hi+6*l.length<=9000->
   (l.foldl (fun d i=>pK (bK p i) (jr fs f).lo (xq ss i) (jr fs f).hi.toNat 0 d) D)[j]? =some ⟨s.lo+(l.map fun i=>if bK p i<=j/\(j:Int)<bK p i+(jr fs f).lo then xq ss i else 0).sum,s.hi+(l.map fun i=>if bK p i<=j/\(j:Int)<bK p i+(jr fs f).hi then xq ss i else 0).sum⟩:=by
  intro l
  induction l with
  | nil=>intro D s h _ _ _ _;simpa using h
  | cons i l ih=>
   intro D s h q1 q2 q3 q4;have Gw:=afv aO i.toNat;have agj:=(abO hp i.toNat).1;have ha:=abN (day:=bK p i) (lo:=(jr fs f).lo) (co:=xq ss i) agj (by have:xq ss i=(ru ss i.toNat).co:=rfl;omega) hj (jr fs f).hi.toNat 0 D s h (fun _=>by simp only[gK]at q3 q4;omega);have aAz:xq ss i=(ru ss i.toNat).co:=rfl;simp only[gK]at q3 q4;rw[List.foldl_cons];by_cases hc:bK p i+((0:Nat):Int)<=j/\(j:Int)<bK p i+((0:Nat):Int)+(jr fs f).hi.toNat
   ·rw[if_pos hc]at ha;by_cases hl:(j:Int)<bK p i+(jr fs f).lo
    ·rw[if_pos hl]at ha;rw[ih _ _ ha (by simp only;omega) (by simp only;omega) (by simp only;omega) (by simp only;omega)];simp only[dQ,List.sum_cons];rw[if_pos (show bK p i<=j/\(j:Int)<bK p i+(jr fs f).lo by omega),if_pos (show bK p i<=j/\(j:Int)<bK p i+(jr fs f).hi by omega),Int.add_assoc,Int.add_assoc]
    rw[if_neg hl]at ha;rw[ih _ _ ha (by simp only;omega) (by simp only;omega) (by simp only;omega) (by simp only;omega)];simp only[dQ,List.sum_cons];rw[if_neg (show¬(bK p i<=j/\(j:Int)<bK p i+(jr fs f).lo) by omega),if_pos (show bK p i<=j/\(j:Int)<bK p i+(jr fs f).hi by omega),Int.add_assoc,Int.zero_add]
   rw[if_neg hc]at ha;rw[ih _ _ ha q1 q2 aj aj];simp only[dQ,List.sum_cons];rw[if_neg (show¬(bK p i<=j/\(j:Int)<bK p i+(jr fs f).lo) by omega),if_neg (show¬(bK p i<=j/\(j:Int)<bK p i+(jr fs f).hi) by omega),Int.zero_add,Int.zero_add]
 have h00:Ns[j]? =some ⟨0,0⟩:=by
  simp only[Ns,List.getElem?_replicate,hj,if_true]
 have hlen:=aaS (p:=p) (f:=f);have:=key (qZ p f) Ns ⟨0,0⟩ h00 (Int.le_refl _) (Int.le_refl _) (by simp only;omega) (by simp only;omega);rw[mY,this]
 have e:∀g:Int->Int,((qZ p f).map g).sum=DR (fun i=>if(dB p i).fl=f then g i else 0) 4:=fun g=>by
  rw[qZ,akd g (pI _ _),UY]
 rw[e,e];simp only[Int.zero_add,auq,adX]
 congr 2
 ·refine EW fun i _=>?_;simp only[loG,bK,xq,Int.toNat_natCast,ru];by_cases h1:(dB p i).fl=f <;>simp[h1]
 refine EW fun i _=>?_;simp only[hiG,bK,xq,Int.toNat_natCast,ru];by_cases h1:(dB p i).fl=f <;>simp[h1]

theorem UZ{pl:Int}:∀{D:List Sp} {k:Nat},qy pl D k=none↔∀(i:Nat) (s:Sp),D[i]? =some s->s.hi<=pl
 | [],k=>by simp[qy]
 | s::D,k=>by
  rw[qy];split
  ·rename_i h;constructor
   ·intro h';cases h'
   intro h';have:=h' 0 s rfl;omega
  rename_i h;rw[UZ (D:=D) (k:=k+1)];constructor
  ·intro h' i t ht
   cases i with
   | zero=>simp at ht;subst ht;omega
   | succ i=>exact h' i t (by simpa using ht)
  intro h' i t ht;exact h' (i+1) t (by simpa using ht)
theorem U0{pl:Int}:∀{D:List Sp} {k:Nat} {q:Bool×Int},qy pl D k=some q->q.1=false/\∃(i:Nat) (s:Sp),q.2=((k+i:Nat):Int)/\D[i]? =some s/\pl<s.hi/\∀(i':Nat) (s':Sp),i'<i->D[i']? =some s'->s'.hi<=pl
 | [],k,q,h=>by cases h
 | s::D,k,q,h=>by
  rw[qy]at h;split at h
  ·rename_i h1
   cases h
   exact⟨O,0,s,O,O,h1,fun i' s' hi=>by omega⟩
  rename_i h1;obtain⟨h2,i,t,h3,h4,h5,h6⟩:=U0 h;refine⟨h2,i+1,t,by rw[h3];congr 1;omega,by simpa using h4,h5,fun i' s' hi hs=>?_⟩
  cases i' with
  | zero=>simp at hs;subst hs;omega
  | succ i'=>exact h6 i' s' aj (by simpa using hs)
theorem abP{pl:Int}:∀{D:List Sp},over pl D=true↔∃(i:Nat) (s:Sp),D[i]? =some s/\pl<s.hi
 | []=>by simp[over]
 | s::D=>by
  rw[over];split
  ·rename_i h;exact⟨fun _=>⟨0,s,O,h⟩,fun _=>rfl⟩
  rename_i h;rw[abP (D:=D)];constructor
  ·rintro⟨i,t,h1,h2⟩;exact⟨i+1,t,by simpa using h1,h2⟩
  rintro⟨i,t,h1,h2⟩
  cases i with
  | zero=>simp at h1;subst h1;exact absurd h2 h
  | succ i=>exact⟨i,t,by simpa using h1,h2⟩

abbrev Srt(key:Int->Int)(l:List Int):Prop:=l.Pairwise fun a b=>key a<=key b
theorem abQ{key:Int->Int}:∀(j:Nat) (A C:List Int) (x:Int),A.length=j->Srt key A->∃R,sink key j (A++x::C)=R++C/\R.length=j+1/\Srt key R/\R.Perm (x::A)
 | 0,A,C,x,h,_=>by
  have:A=[]:=jy.1 h;subst this;exact⟨[x],O,O,List.pairwise_singleton _ _,.refl _⟩
 | j+1,A,C,x,h,hs=>by
  obtain⟨A',a,rfl⟩:∃A' a,A=A'++[a]:=⟨A.dropLast,A.getLast (by intro e;subst e;simp at h),(List.dropLast_concat_getLast _).symm⟩
  have hl:A'.length=j:=by simpa using h
  have ha:(A'++[a]++x::C)[j]? =some a:=by simp[<-hl]
  have hx:(A'++[a]++x::C)[j+1]? =some x:=by simp[<-hl]
  rw[Srt,List.pairwise_append]at hs;rw[sink];simp only[ha,hx];split
  ·rename_i hk
   have e:swp (A'++[a]++x::C) j a x=A'++x::a::C:=by
    simp[swp,<-hl,List.set_append]
   rw[e];obtain⟨R,h1,h2,h3,h4⟩:=abQ j A' (a::C) x hl hs.1;refine⟨R++[a],by rw[h1];simp,by simp[h2],?_,?_⟩
   ·rw[Srt,List.pairwise_append];refine⟨h3,List.pairwise_singleton _ _,fun b hb c hc=>?_⟩;have Og:c=a:=by simpa using hc
    subst Og;rcases bU.1 (h4.subset hb)with rfl | hb
    ·omega
    exact hs.2.2 b hb c (by simp)
   exact(h4.append_right [a])
  rename_i hk;refine⟨A'++[a,x],by simp,by simp[hl],?_,?_⟩
  ·rw[Srt,List.pairwise_append];refine⟨hs.1,by simp;omega,fun b hb c hc=>?_⟩;have hba:=hs.2.2 b hb a (by simp);rcases bU.1 hc with rfl | hc
   ·exact hba
   have:c=x:=by simpa using hc
   subst this;omega
  have:(A'++[a,x])=(A'++[a])++[x]:=by simp
  rw[this];exact dK
theorem U1{key:Int->Int}{l:List Int}:∀i,i<l.length->∃R,uH key l i=R++l.drop (i+1)/\R.length=i+1/\Srt key R
 | 0,h=>by
  obtain⟨x,hx,hd⟩:=has h;exact⟨[x],by rw[uH];simpa using hd,O,List.pairwise_singleton _ _⟩
 | i+1,h=>by
  obtain⟨R,h1,h2,h3⟩:=U1 (key:=key) (l:=l) i aj;obtain⟨x,hx,hd⟩:=has h;rw[uH,h1,hd];obtain⟨R',h4,h5,h6,-⟩:=abQ (key:=key) (i+1) R (l.drop (i+2)) x h2 h3;exact⟨R',h4,h5,h6⟩
theorem XH{key:Int->Int}{l:List Int}:Srt key (JQ key l):=by
 rcases Nat.eq_zero_or_pos l.length with h | h
 ·have:l=[]:=jy.1 h;subst this;exact .nil
 obtain⟨R,h1,h2,h3⟩:=U1 (key:=key) (l.length-1) (show l.length-1<l.length by omega);rw[JQ,h1,List.drop_eq_nil_of_le aj,List.append_nil];exact h3

def yC(co lo:Int):List Int->Int->Option Int
 | [],_=>none
 | d::r,u=>if 0<=u/\u+co<d then some (u+co)else yC co lo r (max u (d+lo))
def merge(fd:xw)(c:Option Int):xw:=match c with
 | none=>fd
 | some n=>if early n fd=true then some (true,n)else fd
theorem U2{co lo:Int}(Qb:0<=lo):∀{l:List Int} {u n:Int},yC co lo l u=some n->u+co<=n
 | [],_,_,h=>by cases h
 | d::r,u,n,h=>by
  rw[yC]at h;split at h
  ·cases h;exact Int.le_refl _
  have:=U2 Qb h;omega
theorem U3{co lo:Int}(Qb:1<=lo/\lo<=6)(Gw:0<=co/\co<=9):∀(ds:List Int) (fd:xw) (u:Int),-1<=u->u<=100->(∀d∈ds,0<=d/\d<=17)->(ds.foldl (fun s d=>Dl co lo d s) (fd,u)).1=merge fd (yC co lo ds u)
 | [],fd,u,_,_,_=>rfl
 | d::r,fd,u,h1,h2,hd=>by
  have hd0:=hd d (bT ..);have ew:BQ u co=u+co:=AA aj aj;have hm:max u (d+lo)<=100/\-1<=max u (d+lo):=by omega
  rw[List.foldl_cons,Dl,U3 Qb Gw r _ _ hm.2 hm.1 (fun x hx=>hd x (dH _ hx)),ew,yC];simp only;by_cases hc:0<=u/\u+co<d
  ·rw[if_pos hc]
   have hge:∀n,yC co lo r (max u (d+lo))=some n->u+co<n:=fun n hn=>by
    have:=U2 aj hn;omega
   have hmm:∀fd',(fd'=some (true,u+co)\/early (u+co) fd'=false)->merge fd' (yC co lo r (max u (d+lo)))=fd':=by
    intro fd' hf
    cases hn:yC co lo r (max u (d+lo))with
    | none=>rfl
    | some n=>
     have:=hge n hn;simp only[merge];rw[if_neg];rcases hf with rfl | hf
     ·simp[early];omega
     cases fd' with
     | none=>simp[early]at hf
     | some q=>simp[early]at hf⊢;omega
   by_cases he:early (u+co) fd=true
   ·rw[if_pos ⟨hc.1,hc.2,he⟩,hmm _ (.inl O)];simp[merge,he]
   rw[if_neg (fun h=>he h.2.2),hmm _ (.inr (by simpa using he))];simp[merge,he]
  rw[if_neg (fun h=>hc ⟨h.1,h.2.1⟩),if_neg hc]
theorem adY{fd:xw}{c:Option Int}:merge fd c=none↔fd=none/\c=none:=by
 cases c with
 | none=>simp[merge]
 | some n=>
  simp only[merge];constructor
  ·intro h;split at h
   ·cases h
   rename_i h1;subst h;simp[early]at h1
  rintro⟨_,h⟩;cases h
theorem XI{co lo:Int}(Qb:1<=lo):∀{ds:List Int} {e:Int},0<=e->(∀d∈ds,e<=d)->ds.Pairwise (·<=·)->
  (∀n,yC co lo ds (e+lo)=some n->∃a,(a=e\/a∈ds)/\n=a+lo+co/\(∃b∈ds,n<b)/\∀b∈ds,b<=a\/n<b)/\
  (yC co lo ds (e+lo)=none->∀a,(a=e\/a∈ds)->∀b∈ds,a+lo+co<b->∃c∈ds,a<c/\c<=a+lo+co)/\
  (∀n,yC co lo ds (e+lo)=some n->∀a,(a=e\/a∈ds)->a+lo+co<n->∀b∈ds,a+lo+co<b->∃c∈ds,a<c/\c<=a+lo+co)
 | [],e,_,_,_=>⟨fun n h=>(by cases h),fun _ a _ b hb=>(by simp at hb),fun n h=>(by cases h)⟩
 | d::r,e,h0,hge,hs=>by
  have hd:=hge d (bT ..);rw[List.pairwise_cons]at hs;have hm:max (e+lo) (d+lo)=d+lo:=by omega
  have he0:0<=e+lo:=by omega
  rw[yC,hm];by_cases hc:0<=e+lo/\e+lo+co<d
  ·rw[if_pos hc];refine⟨fun n h=>?_,fun h=>(by cases h),fun n h a ha fK=>?_⟩
   ·cases h
    refine⟨e,.inl O,O,⟨d,bT ..,hc.2⟩,fun b hb=>.inr ?_⟩;rcases bU.1 hb with rfl | hb
    ·exact hc.2
    have:=hs.1 b hb;omega
   cases h
   rcases ha with rfl | ha
   ·omega
   have:=hge a ha;omega
  rw[if_neg hc];have iK:¬e+lo+co<d:=fun h=>hc ⟨he0,h⟩;obtain⟨i1,i2,i3⟩:=XI (co:=co) Qb (ds:=r) (e:=d) aj hs.1 hs.2
  have step:(∀a,(a=d\/a∈r)->∀b∈r,a+lo+co<b->∃c∈r,a<c/\c<=a+lo+co)->∀a,(a=e\/a∈d::r)->∀b∈d::r,a+lo+co<b->∃c∈d::r,a<c/\c<=a+lo+co:=by
   intro H a ha b hb fK;have wz:b∈r\/b=d:=(bU.1 hb).symm;rcases ha with rfl | ha
   ·
    rcases wz with wz | rfl
    ·by_cases hde:a<d
     ·exact⟨d,bT ..,hde,aj⟩
     have:d=a:=by omega
     subst this;obtain⟨c,Y4,ZJ⟩:=H d (.inl rfl) b wz fK;exact⟨c,dH _ Y4,ZJ⟩
    omega
   have YD:a=d\/a∈r:=bU.1 ha;rcases wz with wz | rfl
   ·obtain⟨c,Y4,ZJ⟩:=H a YD b wz fK;exact⟨c,dH _ Y4,ZJ⟩
   rcases YD with rfl | YD
   ·omega
   have:=hs.1 a YD;omega
  refine⟨fun n h=>?_,fun h=>step (i2 h),fun n h=>?_⟩
  ·obtain⟨a,ha,hn,⟨b,hb,PW⟩,aO⟩:=i1 n h
   have had:d<=a:=by
    rcases ha with rfl | ha
    ·exact Int.le_refl _
    exact hs.1 a ha
   refine⟨a,.inr (by rcases ha with rfl | ha <;>simp[*]),hn,⟨b,dH _ hb,PW⟩,fun c hc=>?_⟩;rcases bU.1 hc with rfl | hc
   ·exact .inl had
   exact aO c hc
  intro a ha fK b hb aqR;have hn:=U2 aj h;rcases ha with rfl | ha
  ·by_cases hde:a<d
   ·exact⟨d,bT ..,hde,aj⟩
   have hda:d=a:=by omega
   subst hda;rcases bU.1 hb with rfl | hb
   ·omega
   obtain⟨c,Y4,ZJ⟩:=i3 n h d (.inl rfl) fK b hb aqR;exact⟨c,dH _ Y4,ZJ⟩
  rcases bU.1 ha with rfl | ha
  ·rcases bU.1 hb with rfl | hb
   ·omega
   obtain⟨c,Y4,ZJ⟩:=i3 n h a (.inl rfl) fK b hb aqR;exact⟨c,dH _ Y4,ZJ⟩
  have:=hs.1 a ha;rcases bU.1 hb with rfl | hb
  ·omega
  obtain⟨c,Y4,ZJ⟩:=i3 n h a (.inr ha) fK b hb aqR;exact⟨c,dH _ Y4,ZJ⟩
def JY(p:List Be)(f a:Int):Prop:=∃i,i<4/\(dB p i).fl=f/\(dB p i).day=a
def am5(fs:List Fl)(p:List Be)(f n:Int):Prop:=∃a,JY p f a/\n=a+(jr fs f).lo+(jr fs f).co/\(∃b,JY p f b/\n<b)/\∀b,JY p f b->b<=a\/n<b
def Full(fs:List Fl)(ss:List St)(p:List Be)(f n:Int):Prop:=0<=n/\n<22/\(jr fs f).pl<adX fs ss p f n
def Bad(fs:List Fl)(ss:List St)(p:List Be)(f n:Int):Prop:=Full fs ss p f n\/am5 fs p f n

theorem U4{p:List Be}{f:Int}:∀{k:Nat} {a:Int},a∈yJ p f k↔∃i,i<k/\(dB p i).fl=f/\a=(i:Int)
 | 0,a=>by simp[yJ]
 | k+1,a=>by
  rw[yJ];split
  ·rename_i h;rw[dh,U4 (k:=k)];constructor
   ·rintro(⟨i,h1,h2,h3⟩ | h1)
    ·exact⟨i,aj,h2,h3⟩
    exact⟨k,aj,h,by simpa using h1⟩
   rintro⟨i,h1,h2,h3⟩;by_cases e:i=k
   ·subst e;right;simpa using h3
   left;exact⟨i,aj,h2,h3⟩
  rename_i h;rw[U4 (k:=k)];constructor
  ·rintro⟨i,h1,h2,h3⟩;exact⟨i,aj,h2,h3⟩
  rintro⟨i,h1,h2,h3⟩;by_cases e:i=k
  ·subst e;exact absurd h2 h
  exact⟨i,aj,h2,h3⟩
theorem abR:a∈(qZ p f).map (bK p)↔JY p f a:=by
 simp only[List.mem_map,qZ,(pI _ _).mem_iff,U4,JY];constructor
 ·rintro⟨x,⟨i,h1,h2,rfl⟩,h3⟩;exact⟨i,h1,h2,by simpa[bK]using h3⟩
 rintro⟨i,h1,h2,h3⟩;exact⟨i,⟨i,h1,h2,rfl⟩,by simpa[bK]using h3⟩
theorem abS(hp:Ak p)(h:JY p f a):0<=a/\a<=17:=by
 obtain⟨i,_,_,rfl⟩:=h;exact abO hp i

theorem abT(aO:dV fs ss)(hp:Ak p)(h0:0<=f)(h1:f<fs.length):
  ∃c,Fq fs ss p f=merge (qy (jr fs f).pl (mY fs ss p f) 0) c/\(∀n,c=some n->am5 fs p f n/\∀n',n'<n->¬am5 fs p f n')/\(c=none->∀n,¬am5 fs p f n):=by
 have CV:=aoy aO h0 h1;refine⟨yC (jr fs f).co (jr fs f).lo ((qZ p f).map (bK p)) (-1),?_,?_⟩
 ·rw[<-U3 ⟨CV.2.2.1,aj⟩ ⟨CV.2.2.2.2.2.1,CV.2.2.2.2.2.2⟩ _ _ _ (Int.le_refl _) dF (fun d hd=>abS hp (abR.1 hd)),Fq,List.foldl_map]
 have hs:((qZ p f).map (bK p)).Pairwise (·<=·):=by
  rw[List.pairwise_map];exact XH
 have hd:∀a,a∈(qZ p f).map (bK p)↔JY p f a:=fun a=>abR
 cases hl:(qZ p f).map (bK p)with
 | nil=>
  rw[hl]at hd;refine⟨fun n h=>(by cases h),fun _ n hn=>?_⟩;obtain⟨a,ha,_⟩:=hn;have:=(hd a).2 ha
  cases this
 | cons d r=>
  rw[hl]at hs hd;rw[List.pairwise_cons]at hs;have hd0:=(abS hp ((hd d).1 (bT ..))).1
  have e:yC (jr fs f).co (jr fs f).lo (d::r) (-1)=yC (jr fs f).co (jr fs f).lo r (d+(jr fs f).lo):=by
   rw[yC,if_neg aj];congr 1;omega
  obtain⟨i1,i2,i3⟩:=XI (co:=(jr fs f).co) CV.2.2.1 (ds:=r) (e:=d) hd0 hs.1 hs.2;have hm:∀a,(a=d\/a∈r)↔JY p f a:=fun a=>by rw[<-hd];exact bU.symm
  have hr:∀a b,JY p f a->JY p f b->a<b->b∈r:=fun a b ha hb fK=>by
   rcases(hm b).2 hb with rfl | h
   ·rcases(hm a).2 ha with rfl | h'
    ·omega
    have:=hs.1 a h';omega
   exact h
  rw[e];refine⟨fun n h=>⟨?_,fun n' GN hc=>?_⟩,fun h n hc=>?_⟩
  ·obtain⟨a,ha,hn,⟨b,hb,PW⟩,Y0⟩:=i1 n h;refine⟨a,(hm a).1 ha,hn,⟨b,(hm b).1 (.inr hb),PW⟩,fun c hc=>?_⟩;rcases(hm c).2 hc with rfl | hc
   ·left;rcases ha with rfl | ha
    ·exact Int.le_refl _
    exact hs.1 a ha
   exact Y0 c hc
  ·obtain⟨a,ha,rfl,⟨b,hb,PW⟩,Y0⟩:=hc;obtain⟨c,Y4,ZJ,hc3⟩:=i3 n h a ((hm a).2 ha) GN b (hr a b ha hb aj) PW;have:=Y0 c ((hm c).1 (.inr Y4));omega
  obtain⟨a,ha,rfl,⟨b,hb,PW⟩,Y0⟩:=hc;obtain⟨c,Y4,ZJ,hc3⟩:=i2 h a ((hm a).2 ha) b (hr a b ha hb aj) PW;have:=Y0 c ((hm c).1 (.inr Y4));omega

theorem XJ(aO:dV fs ss)(hp:Ak p)(h0:0<=f)(h1:f<fs.length):qy (jr fs f).pl (mY fs ss p f) 0=none↔∀n,¬Full fs ss p f n:=by
 rw[UZ];constructor
 ·rintro h n ⟨n0,n1,n2⟩;obtain⟨j,rfl⟩:∃j:Nat,n=j:=⟨n.toNat,aj⟩
  have:=h j _ (zN aO hp h0 h1 aj);simp only at this;omega
 intro h i s hs
 have hi:i<22:=by
  rcases bQ i 22 with h' | h'
  ·exact h'
  rw[fM (by rw[xu];exact h')]at hs;cases hs
 rw[zN aO hp h0 h1 hi]at hs
 cases hs
 exact Int.not_lt.1 fun fK=>h i ⟨aj,aj,fK⟩
theorem ag6{q:Bool×Int}(aO:dV fs ss)(hp:Ak p)(h0:0<=f)(h1:f<fs.length)(h:qy (jr fs f).pl (mY fs ss p f) 0=some q):Full fs ss p f q.2/\∀n',n'<q.2->¬Full fs ss p f n':=by
 obtain⟨-,i,s,h2,h3,h4,h5⟩:=U0 h
 have hi:i<22:=by
  rcases bQ i 22 with h' | h'
  ·exact h'
  rw[fM (by rw[xu];exact h')]at h3;cases h3
 rw[zN aO hp h0 h1 hi]at h3
 cases h3
 rw[Nat.zero_add]at h2;rw[h2];refine⟨⟨aj,aj,h4⟩,?_⟩;rintro n' GN ⟨q0,q1,q2⟩;obtain⟨j,rfl⟩:∃j:Nat,n'=j:=⟨n'.toNat,aj⟩
 have:=h5 j _ aj (zN aO hp h0 h1 aj);simp only at this;omega

theorem ag7(aO:dV fs ss)(hp:Ak p)(h0:0<=f)(h1:f<fs.length):Fq fs ss p f=none↔∀n,¬Bad fs ss p f n:=by
 obtain⟨c,hc,hs,hn⟩:=abT aO hp h0 h1;rw[hc,adY,XJ aO hp h0 h1];constructor
 ·rintro⟨h2,h3⟩ n (hb | hb)
  ·exact h2 n hb
  exact hn h3 n hb
 intro h;refine⟨fun n hb=>h n (.inl hb),?_⟩
 cases c with
 | none=>rfl
 | some n=>exact absurd (.inr (hs n rfl).1) (h n)
theorem ag8{q:Bool×Int}(aO:dV fs ss)(hp:Ak p)(h0:0<=f)(h1:f<fs.length)(h:Fq fs ss p f=some q):Bad fs ss p f q.2/\∀n',n'<q.2->¬Bad fs ss p f n':=by
 obtain⟨c,hc,hs,hn⟩:=abT aO hp h0 h1;rw[hc]at h
 cases hf:qy (jr fs f).pl (mY fs ss p f) 0 with
 | none=>
  rw[hf]at h;have hf':=(XJ aO hp h0 h1).1 hf
  cases c with
  | none=>cases h
  | some n=>
   have:q=(true,n):=by simpa[merge,early]using h.symm
   subst this;obtain⟨a1,a2⟩:=hs n rfl;exact⟨.inr a1,fun n' GN hb=>hb.elim (hf' n') (a2 n' GN)⟩
 | some q'=>
  rw[hf]at h;obtain⟨b1,b2⟩:=ag6 aO hp h0 h1 hf
  cases c with
  | none=>
   have:q'=q:=by simpa[merge]using h
   subst this;exact⟨.inl b1,fun n' GN hb=>hb.elim (b2 n' GN) (hn O n')⟩
  | some n=>
   obtain⟨a1,a2⟩:=hs n rfl;simp only[merge,early,decide_eq_true_eq]at h;split at h
   ·rename_i fK;have:q=(true,n):=by simpa using h.symm
    subst this;exact⟨.inr a1,fun n' GN hb=>hb.elim (b2 n' (by simp only at GN;omega)) (a2 n' GN)⟩
   rename_i fK;have:q'=q:=by simpa using h
   subst this;exact⟨.inl b1,fun n' GN hb=>hb.elim (b2 n' GN) (a2 n' aj)⟩

theorem U5{fs:List Fl}{ss:List St}{p:List Be}(aO:dV fs ss)(hp:Ak p):∀k,k<=fs.length->
  (xA fs ss p k=none->∀f:Int,0<=f->f<k->∀n,¬Bad fs ss p f n)/\
  (∀c n f,xA fs ss p k=some ((c,n),f)->0<=f/\f<k/\Bad fs ss p f n/\∀g n':Int,0<=g->g<k->Bad fs ss p g n'->n<n'\/n=n'/\f<=g)
 | 0,_=>⟨fun _ f h0 h1=>by omega,fun c n f h=>(by cases h)⟩
 | k+1,hk=>by
  obtain⟨i1,i2⟩:=U5 aO hp k aj;have l1:=ag7 aO hp (show(0:Int)<=k by omega) (show(k:Int)<fs.length by omega);have l2:=fun q=>ag8 (q:=q) aO hp (show(0:Int)<=k by omega) (show(k:Int)<fs.length by omega);rw[xA]
  cases hl:Fq fs ss p k with
  | none=>
   have l1':=l1.1 hl;simp only[W_];refine⟨fun h f h0 h1 n=>?_,fun c n f h=>?_⟩
   ·by_cases e:f=k
    ·subst e;exact l1' n
    exact i1 h f h0 aj n
   obtain⟨a0,a1,a2,a3⟩:=i2 c n f h;refine⟨a0,aj,a2,fun g n' g0 g1 hb=>?_⟩;by_cases e:g=k
   ·subst e;exact absurd hb (l1' n')
   exact a3 g n' g0 aj hb
  | some z=>
   obtain⟨z1,z2⟩:=l2 z hl;simp only[W_]
   cases hi:xA fs ss p k with
   | none=>
    simp only[aeY,if_true];refine⟨fun h=>(by cases h),fun c n f h=>?_⟩;simp only[dY,Prod.mk.injEq]at h;obtain⟨rfl,rfl⟩:=h;refine⟨aj,aj,z1,fun g n' g0 g1 hb=>?_⟩;by_cases e:g=k
    ·subst e;rcases Int.lt_trichotomy n n' with h | h | h
     ·exact .inl h
     ·exact .inr ⟨h,Int.le_refl _⟩
     exact absurd hb (z2 n' h)
    exact absurd hb (i1 hi g g0 aj n')
   | some w=>
    obtain⟨⟨cw,nw⟩,fw⟩:=w;obtain⟨a0,a1,a2,a3⟩:=i2 cw nw fw hi;simp only[aeY,decide_eq_true_eq];split
    ·rename_i fK;refine⟨fun h=>(by cases h),fun c n f h=>?_⟩;simp only[dY,Prod.mk.injEq]at h;obtain⟨rfl,rfl⟩:=h;refine⟨aj,aj,z1,fun g n' g0 g1 hb=>?_⟩;by_cases e:g=k
     ·subst e;rcases Int.lt_trichotomy n n' with h | h | h
      ·exact .inl h
      ·exact .inr ⟨h,Int.le_refl _⟩
      exact absurd hb (z2 n' h)
     have:=a3 g n' g0 aj hb;simp only at fK;left;omega
    rename_i fK;refine⟨fun h=>(by cases h),fun c n f h=>?_⟩;simp only[dY,Prod.mk.injEq]at h;obtain⟨⟨rfl,rfl⟩,rfl⟩:=h;refine⟨a0,aj,a2,fun g n' g0 g1 hb=>?_⟩;by_cases e:g=k
    ·subst e;have:¬n'<z.2:=fun h=>z2 n' h hb;rcases Int.lt_trichotomy nw n' with h | h | h
     ·exact .inl h
     ·exact .inr ⟨h,aj⟩
     omega
    exact a3 g n' g0 aj hb
theorem Ph(aO:dV fs ss)(hp:Ak p):xB fs ss p=none↔∀f:Int,0<=f->f<fs.length->∀n,¬Bad fs ss p f n:=by
 obtain⟨i1,i2⟩:=U5 aO hp fs.length (Nat.le_refl _);constructor
 ·intro h f h0 h1 n;exact i1 h f h0 h1 n
 intro h
 cases hi:xB fs ss p with
 | none=>rfl
 | some w=>
  obtain⟨⟨c,n⟩,f⟩:=w;obtain⟨a0,a1,a2,_⟩:=i2 c n f hi;exact absurd a2 (h f a0 a1 n)
theorem rE(hk:k<p.length):dB (p.set k b) i=if i=k then b else dB p i:=by
 simp only[dB,List.getD];by_cases e:i=k
 ·subst e;rw[if_pos O,List.getElem?_set_self hk];rfl
 rw[if_neg e,List.getElem?_set_ne (Ne.symm e)]
theorem ake{q:List Be}(h1:p.length=4)(h2:q.length=4)(h:∀i,i<4->dB p i=dB q i):p=q:=by
 apply List.ext_getElem?;intro i;rcases bQ i 4 with hi | hi
 ·have:=h i hi;simp only[dB,List.getD,jh (show i<p.length by omega),jh (show i<q.length by omega),Option.getD_some]at this⊢;rw[this]
 rw[fM aj,fM aj]
theorem am6{q:List Be}{d:Int}(aO:dV fs ss)(hf:0<=f)(h:∀i,i<4->dB q i=dB p i\/(dB q i).fl<0):adX fs ss q f d<=adX fs ss p f d:=by
 refine Zy fun i hi=>?_;have hc:=(afv aO i).1;rcases h i hi with h | h
 ·simp only[hiG,h];exact Int.le_refl _
 simp only[hiG];rw[if_neg aj];split <;>omega
theorem akf{q:List Be}(aO:dV fs ss)(hp:Ak p)(hq:Ak q)(hb:b.fl<fs.length)(hr:xB fs ss p=none)(h:∀i,i<4->dB q i=dB p i\/(dB q i).fl<0):prune fs ss q b=false:=by
 unfold prune;split
 ·rename_i h0
  cases ho:over (jr fs b.fl).pl (mY fs ss q b.fl)with
  | false=>rfl
  | true=>
   obtain⟨i,s,hs,fK⟩:=abP.1 ho
   have hi:i<22:=by
    rcases bQ i 22 with h' | h'
    ·exact h'
    rw[fM (by rw[xu];exact h')]at hs;cases hs
   rw[zN aO hq h0 hb hi]at hs
   cases hs
   have hm:=am6 (d:=i) aO h0 h;have:=(Ph aO hp).1 hr b.fl h0 hb i;exact absurd (.inl ⟨aj,aj,by simp only at fK;omega⟩) this
 rfl
theorem zO{fs:List Fl}{ss:List St}{may:PY}(aO:dV fs ss):∀(m k:Nat) (q p:List Be),k+m=ss.length->nY fs ss q->(∀i,k<=i->dB q i=fZ)->
  (p∈iD fs ss may m k q↔p.length=4/\(∀i,i<k->dB p i=dB q i)/\(∀i,k<=i->i<ss.length->dB p i∈bI fs ss may i)/\(∀i,ss.length<=i->dB p i=fZ)/\xB fs ss p=none)
 | 0,k,q,p,hk,hq,hn=>by
  rw[iD];constructor
  ·intro h;split at h
   ·rename_i hi;have:p=q:=by simpa using h
    subst this;exact⟨hq.ok.len,fun _ _=>rfl,fun i h1 h2=>by omega,fun i h1=>hn i aj,by simpa using hi⟩
   cases h
  rintro⟨h1,h2,h3,h4,h5⟩
  have:p=q:=ake h1 hq.ok.len fun i hi=>by
   rcases bQ i k with h | h
   ·exact h2 i h
   rw[h4 i aj,hn i h]
  subst this;simp[h5]
 | m+1,k,q,p,hk,hq,hn=>by
  have QH:k<q.length:=by have:=aO.ns;have:=hq.ok.len;omega
  have hbn:∀b,dB (q.set k b) k=b:=fun b=>by rw[rE QH,if_pos O]
  have hsn:∀b i,k+1<=i->dB (q.set k b) i=fZ:=fun b i hi=>by rw[rE QH,if_neg aj];exact hn i aj
  have hso:∀b i,i<k->dB (q.set k b) i=dB q i:=fun b i hi=>by rw[rE QH,if_neg aj]
  rw[iD,List.mem_flatMap];constructor
  ·rintro⟨b,hb,hp⟩;split at hp
   ·cases hp
   obtain⟨h1,h2,h3,h4,h5⟩:=(zO aO m (k+1) (q.set k b) p aj (pO hq aj (lV aO aj hb)) (hsn b)).1 hp;refine⟨h1,fun i hi=>?_,fun i hi hi2=>?_,h4,h5⟩
   ·rw[h2 i aj,hso b i hi]
   by_cases e:i=k
   ·subst e;rw[h2 i aj,hbn];exact hb
   exact h3 i aj hi2
  rintro⟨h1,h2,h3,h4,h5⟩;have hb:=h3 k (Nat.le_refl _) aj;have dM:=pO (k:=k) hq aj (lV aO aj hb)
  have Tn:∀i,i<4->dB (q.set k (dB p k)) i=dB p i\/(dB (q.set k (dB p k)) i).fl<0:=fun i hi=>by
   rcases Nat.lt_trichotomy i k with h | h | h
   ·left;rw[hso _ i h,h2 i h]
   ·left;subst h;rw[hbn]
   right;rw[hsn _ i aj];simp[fZ]
  have ax3:Ak p:=⟨h1,fun b hb=>by
   obtain⟨i,hi,rfl⟩:=List.mem_iff_getElem.1 hb;have e:p[i]=dB p i:=by simp[dB,List.getD,jh hi]
   rw[e];rcases bQ i k with h | h
   ·rw[h2 i h];exact(nG hq.ok aj).2
   rcases bQ i ss.length with h' | h'
   ·have:=lV aO h' (h3 i h h');omega
   rw[h4 i h'];simp[fZ]⟩
  refine⟨dB p k,hb,?_⟩;rw[if_neg (by rw[akf aO ax3 dM.ok (lV aO aj hb).2.2.1 h5 Tn];simp)];refine(zO aO m (k+1) _ p aj dM (hsn _)).2 ⟨h1,fun i hi=>?_,fun i hi hi2=>h3 i aj hi2,h4,h5⟩;by_cases e:i=k
  ·subst e;rw[hbn]
  rw[hso _ i aj,h2 i aj]
theorem DT(i:Nat):dB (oC []) i=fZ:=aeZ i
theorem Iy{f:Int}:∀(m:Nat) (d:Int),(kL f d m).Nodup
 | 0,_=>.nil
 | m+1,d=>by
  rw[kL,List.nodup_cons];refine⟨fun h=>?_,Iy m (d+1)⟩;have:=(yK h).2.1;simp only at this;omega
theorem DV{s:St}:∀(m:Nat) (f:Int),(dJ s f m).Nodup
 | 0,_=>.nil
 | m+1,f=>by
  rw[dJ,List.nodup_append];refine⟨Iy _ _,DV m (f+1),fun a ha b hb e=>?_⟩;subst e;have h1:=(yK ha).1;have h2:=(uJ hb).1;omega
theorem JZ:(bI fs ss may k).Nodup:=by
 rw[bI,List.nodup_append];refine⟨by split <;>simp,?_,fun a ha b hb e=>?_⟩
 ·split
  ·exact DV _ _
  exact .nil
 subst e;split at ha
 ·have:a=fZ:=by simpa using ha
  subst this;split at hb
  ·have:=(uJ hb).1;simp[fZ]at this
  cases hb
 cases ha
theorem Jb(aO:dV fs ss){m:Nat}{q:List Be}(hk:k+1+m=ss.length)(hq:nY fs ss q)(hn:∀i,k<=i->dB q i=fZ)(hb:b∈bI fs ss may k)(h:p∈iD fs ss may m (k+1) (q.set k b)):dB p k=b:=by
 have QH:k<q.length:=by have:=aO.ns;have:=hq.ok.len;omega
 have:=((zO aO m (k+1) (q.set k b) p aj (pO hq aj (lV aO aj hb)) (fun i hi=>by rw[rE QH,if_neg aj];exact hn i aj)).1 h).2.1 k aj;rw[this,rE QH,if_pos O]
theorem EY{fs:List Fl}{ss:List St}{may:PY}(aO:dV fs ss):∀(m k:Nat) (q:List Be),k+m=ss.length->nY fs ss q->(∀i,k<=i->dB q i=fZ)->(iD fs ss may m k q).Nodup
 | 0,k,q,_,_,_=>by
  rw[iD];split <;>simp
 | m+1,k,q,hk,hq,hn=>by
  have QH:k<q.length:=by have:=aO.ns;have:=hq.ok.len;omega
  rw[iD,List.Nodup,List.pairwise_flatMap];refine⟨fun b hb=>?_,?_⟩
  ·split
   ·exact .nil
   exact EY aO m (k+1) _ aj (pO hq aj (lV aO aj hb)) (fun i hi=>by rw[rE QH,if_neg aj];exact hn i aj)
  refine(JZ (fs:=fs) (ss:=ss) (may:=may) (k:=k)).imp_of_mem fun{a b} ha hb hab x hx y hy e=>?_;subst e;split at hx
  ·cases hx
  split at hy
  ·cases hy
  exact hab ((Jb aO aj hq hn ha hx).symm.trans (Jb aO aj hq hn hb hy))
theorem adZ(aO:dV fs ss):(yL fs ss may).Nodup:=by
 unfold yL;split
 ·exact EY aO _ _ _ (by simp) (uM aO.nf.1) (fun i _=>DT i)
 rename_i hs;have aur:∀b,b∈bI fs ss may 0->∀i,1<=i->dB ((oC []).set 0 b) i=fZ:=fun b _ i hi=>by rw[rE dF,if_neg aj];exact DT i
 rw[List.Nodup,List.pairwise_flatMap];refine⟨fun b hb=>?_,?_⟩
 ·rw[dO,List.length_singleton,NC];exact EY aO _ _ _ aj (pO (uM aO.nf.1) aj (lV aO aj hb)) (aur b hb)
 refine(JZ (fs:=fs) (ss:=ss) (may:=may) (k:=0)).imp_of_mem fun{a b} ha hb hab x hx y hy e=>?_;subst e;rw[dO,List.length_singleton,NC]at hx hy;exact hab ((Jb aO aj (uM aO.nf.1) (fun i _=>DT i) ha hx).symm.trans (Jb aO aj (uM aO.nf.1) (fun i _=>DT i) hb hy))

theorem filter_none{l:List α}{f:α->Bool}(h:∀q∈l,f q=false):l.filter f=[]:=List.filter_eq_nil_iff.2 fun q hq=>by rw[h q hq];simp
structure abV(ss:List St)(l:List (List Be))(s:(Int×List (List Be))×List (List Be)):Prop where
 met:s.2=l
 top:l≠[]->(∃q∈l,mZ ss q=s.1.1)/\∀q∈l,mZ ss q<=s.1.1
 out:s.1.2=l.filter fun q=>decide (mZ ss q=s.1.1)
theorem abV.step{l:List (List Be)}{s:(Int×List (List Be))×List (List Be)}(H:abV ss l s)(hp:p∉l):abV ss (l++[p]) (Dv ss s p):=by
 obtain⟨⟨m,out⟩,met⟩:=s;obtain⟨h1,h2,h3⟩:=H;simp only at h1 h2 h3;subst h1;obtain⟨n,hn⟩:∃n,mZ ss p=n:=⟨_,rfl⟩
 simp only[Dv,if_neg hp,jC,hn]
 have hpf:∀c,[p].filter (fun q=>decide (mZ ss q=c))=if n=c then[p]else[]:=fun c=>by
  rw[List.filter_cons];simp[hn]
 rcases met with _ | ⟨q0,r0⟩
 ·have h0:out=[]:=h3;subst h0;simp only[true_or,if_true,List.nil_append];refine⟨O,fun _=>⟨⟨p,by simp,hn⟩,fun q hq=>?_⟩,by simp only;rw[hpf,if_pos O]⟩;have:q=p:=by simpa using hq
  subst this;simp only;omega
 obtain⟨⟨q1,hq1,hq2⟩,ag9⟩:=h2 (by simp)
 have iK:(q0::r0).filter (fun q=>decide (mZ ss q=m))≠[]:=fun e=>by
  have:=List.filter_eq_nil_iff.1 e q1 hq1;simp[hq2]at this
 rw[<-h3]at iK;generalize q0::r0=l at*;by_cases fK:m<n
 ·have hc:out=[]\/m<n:=.inr fK;simp only[if_pos hc,if_true,List.nil_append];refine⟨O,fun _=>⟨⟨p,by simp,hn⟩,fun q hq=>?_⟩,?_⟩
  ·rcases dh.1 hq with hq | hq
   ·have:=ag9 q hq;simp only;omega
   have:q=p:=by simpa using hq
   subst this;simp only;omega
  simp only;rw[List.filter_append,hpf,if_pos O,filter_none fun q hq=>?_]
  ·rfl
  have:=ag9 q hq;exact decide_eq_false aj
 have hc:¬(out=[]\/m<n):=not_or.2 ⟨iK,fK⟩;simp only[if_neg hc];by_cases he:n=m
 ·rw[if_pos he];refine⟨O,fun _=>⟨⟨p,by simp,hn.trans he⟩,fun q hq=>?_⟩,?_⟩
  ·rcases dh.1 hq with hq | hq
   ·exact ag9 q hq
   have:q=p:=by simpa using hq
   subst this;simp only;omega
  simp only;rw[List.filter_append,hpf,if_pos he,h3]
 rw[if_neg he];refine⟨O,fun _=>⟨⟨q1,by simp[hq1],hq2⟩,fun q hq=>?_⟩,?_⟩
 ·rcases dh.1 hq with hq | hq
  ·exact ag9 q hq
  have:q=p:=by simpa using hq
  subst this;simp only;omega
 simp only;rw[List.filter_append,hpf,if_neg he,List.append_nil,h3]
theorem abV.run{ss:List St}:∀(r l:List (List Be)) (s:(Int×List (List Be))×List (List Be)),abV ss l s->(l++r).Nodup->abV ss (l++r) (r.foldl (Dv ss) s)
 | [],l,s,h,_=>by rw[List.append_nil];exact h
 | p::r,l,s,h,uX=>by
  rw[List.foldl_cons,show l++p::r=(l++[p])++r by simp];refine abV.run r (l++[p]) _ (h.step fun hm=>?_) (by simpa using uX);exact(List.nodup_append.1 uX).2.2 p hm p (by simp) O
theorem XK(aO:dV fs ss):(∃q∈yL fs ss uK,mZ ss q=(lY fs ss).1)/\(∀q∈yL fs ss uK,mZ ss q<=(lY fs ss).1)/\(lY fs ss).2=(yL fs ss uK).filter fun q=>decide (mZ ss q=(lY fs ss).1):=by
 have h:=abV.run (ss:=ss) (yL fs ss uK) [] ((0,[]),[]) ⟨O,fun h=>absurd O h,O⟩ (adZ aO);rw[List.nil_append]at h;have iK:yL fs ss uK≠[]:=fun e=>by have:=ae2 aO;rw[e]at this;cases this
 exact⟨(h.top iK).1,(h.top iK).2,h.out⟩

def coG(ss:List St)(p:List Be)(i:Nat):Int:=if 0<=(dB p i).fl then(ru ss i).co else 0
theorem Lp{fs:List Fl}{ss:List St}{p:List Be}(aO:dV fs ss):∀k,k<=1000->wJ ss p k=DR (coG ss p) k/\0<=DR (coG ss p) k/\DR (coG ss p) k<=6*k
 | 0,_=>⟨rfl,Int.le_refl _,Int.le_refl _⟩
 | k+1,hk=>by
  obtain⟨h1,h2,h3⟩:=Lp (p:=p) aO k aj;have hc:=afv aO k;simp only[wJ,DR,coG];split
  ·rw[h1,Lm h2 aj hc.1 aj];exact⟨O,aj,aj⟩
  exact⟨aj,aj,aj⟩
theorem Lr(aO:dV fs ss):mZ ss p=DR (coG ss p) ss.length:=(Lp aO _ (by have:=aO.ns;omega)).1
end Go.jc
