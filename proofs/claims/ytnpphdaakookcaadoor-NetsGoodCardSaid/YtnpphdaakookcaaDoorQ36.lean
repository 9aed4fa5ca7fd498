/- Part 36: words and walks under the laws of the whole. -/
import Derived.Test.YtnpphdaakookcaaDoorQ32
import Derived.Test.YtnpphdaakookcaaDoorQ33
import Derived.Test.YtnpphdaakookcaaDoorQ35
set_option linter.unusedVariables false
set_option linter.unusedSimpArgs false
set_option maxHeartbeats 4000000
set_option maxRecDepth 100000
namespace Go.Proofs.YtnpphdaakookcaaDoor
open Go.RowKit
theorem zMc {x:Scu.Net} (hC:Scu.Came x) (r:Nat) (h:r < x.replicas.length):0<=x.replicas[r].kept.view/\0<=x.replicas[r].kept.commit/\x.replicas[r].kept.commit<=x.replicas[r].kept.log.length/\∀ st,Scu.play (x.replicas[r].kept.log.take x.replicas[r].kept.commit.toNat)=(st,0)->st.lasts.length=4:=by
 have hm:x.replicas[r] ∈ x.replicas:=List.getElem_mem h
 have h1:=hC.com hm
 have h2:=(Scu.keptFault_ok (Scu.repFault_ok (hC.fault hm)).2.2.2.2.2.2.2).1
 obtain ⟨h3,h4⟩:=hC.played hm
 refine ⟨h2,h1.1,h1.2.1,fun st Ha=>?_⟩
 have e:st=Scu.played (Scu.comOf x.replicas[r]):=by
  have h5:Scu.play (Scu.comOf x.replicas[r])=(st,0):=Ha
  rw [h3] at h5
  exact (Prod.mk.inj h5).1.symm
 rw [e]
 exact (Scu.lastsOk_iff.1 (Scu.stateFault_iff.1 h4).1).1
theorem zJt {x:Scu.Net} (hC:Scu.Came x) {n:Nat} (hB:Scu.Bnd n x) (hn:n<=900) (c:Nat) (h:c < x.clients.length):x.clients[c].id=(c:Int)+1/\1<=x.clients[c].next/\x.clients[c].next<=1000000:=by
 have e:Scu.cAt x c=x.clients[c]:=by unfold Scu.cAt;rw [mI,mH h];rfl
 have h1:=hC.ids.2 c h
 have h2:=hB.next c h
 rw [e] at h1 h2
 exact ⟨h1.1,h1.2,by omega⟩
theorem zTn (a:Scu.Act) (w:World) (base gx:Nat) (x:Scu.Net) (rv sv fv cv tv:Value) (hN:NetW w base gx x rv sv fv cv tv) (hb:base<=w.heap.size) (hC:Scu.Came x) (n:Nat) (hB:Scu.Bnd n x) (hn:n<=900) (k1 k2 k3:Bool) (h1:(a.kind == 1)=k1) (h2:(a.kind == 2)=k2) (h3:(a.kind == 3)=k3) (hk:(k1 || k2 || k3)=true) (y:Scu.Net) (f:Int) (hy:Scu.actBy x a=(y,f)):Calls Tryd.prog 30 #[.pointer (some ⟨gx,0,none⟩),.agg #[.int .i64 a.kind,.int .i64 a.c,.int .i64 a.r,.int .i64 a.k,.int .i64 a.n,.int .i64 a.op.kind,.int .i64 a.op.at_,.int .i64 a.op.snap,.string a.op.data]] w fun e w'=>e=.returned (.int .i64 f)/\NetE w' base gx y/\Fr base w w':=by
 cases k1
 ·cases k2
  ·cases k3
   ·cases hk
   have Ha:=zAa w (.cells (aN a) 40)
   have HN:=mA (hN.below Ha)
   have He:=mA (Blk.new w 40 (aN a))
   have Hb:=mA (Fr.of Ha hb)
   have HC:=mA hC
   have Hc:=mA hB
   have HY:=mA hy
   clear hN Ha hy hC hB
   go_enter Tryd.func30,Tryd.ntmps30
   go_upto_region 1 with fail
   obtain ⟨Wd,Hf⟩:=mJ (w.alloc (.cells (aN a) 40))
   rw [<- Hf] at HN He Hb ⊢
   clear Hf
   have Hd:=He.out
   obtain ⟨a0,a1,a2,a3,a4,a5,a6,a7,a8⟩:=cz9 Hd
   have al:=Hd.lt
   have Hi:base<=Wd.heap.size:=mD hb Hb.out.size
   clear Hd
   go_wp2_with fail
   refine (zOv a Wd base gx x _ _ _ _ _ HN.out Hi HC.out.rlen.1 HC.out.rlen.2 Hc.out.fly HC.out.ids.1 (by have:=Hc.out.told;omega) (zJt HC.out Hc.out hn) (zMc HC.out) y f HY.out).mono ?_
   rintro en w9 ⟨rfl,Hg,Hh⟩
   have H9:=mA (mB Hg (Hb.out.trans Hh))
   clear Hg Hh
   go_wp2
   go_ret
   exact ⟨rfl,H9.out.1,H9.out.2⟩
  have Ha:=zAa w (.cells (aN a) 40)
  have HN:=mA (hN.below Ha)
  have He:=mA (Blk.new w 40 (aN a))
  have Hb:=mA (Fr.of Ha hb)
  have HC:=mA hC
  have Hc:=mA hB
  have HY:=mA hy
  clear hN Ha hy hC hB
  go_enter Tryd.func30,Tryd.ntmps30
  go_upto_region 1 with fail
  obtain ⟨Wd,Hf⟩:=mJ (w.alloc (.cells (aN a) 40))
  rw [<- Hf] at HN He Hb ⊢
  clear Hf
  have Hd:=He.out
  obtain ⟨a0,a1,a2,a3,a4,a5,a6,a7,a8⟩:=cz9 Hd
  have al:=Hd.lt
  have Hi:base<=Wd.heap.size:=mD hb Hb.out.size
  clear Hd
  go_wp2_with fail
  refine (zOv a Wd base gx x _ _ _ _ _ HN.out Hi HC.out.rlen.1 HC.out.rlen.2 Hc.out.fly HC.out.ids.1 (by have:=Hc.out.told;omega) (zJt HC.out Hc.out hn) (zMc HC.out) y f HY.out).mono ?_
  rintro en w9 ⟨rfl,Hg,Hh⟩
  have H9:=mA (mB Hg (Hb.out.trans Hh))
  clear Hg Hh
  go_wp2
  go_ret
  exact ⟨rfl,H9.out.1,H9.out.2⟩
 have Ha:=zAa w (.cells (aN a) 40)
 have HN:=mA (hN.below Ha)
 have He:=mA (Blk.new w 40 (aN a))
 have Hb:=mA (Fr.of Ha hb)
 have HC:=mA hC
 have Hc:=mA hB
 have HY:=mA hy
 clear hN Ha hy hC hB
 go_enter Tryd.func30,Tryd.ntmps30
 go_upto_region 1 with fail
 obtain ⟨Wd,Hf⟩:=mJ (w.alloc (.cells (aN a) 40))
 rw [<- Hf] at HN He Hb ⊢
 clear Hf
 have Hd:=He.out
 obtain ⟨a0,a1,a2,a3,a4,a5,a6,a7,a8⟩:=cz9 Hd
 have al:=Hd.lt
 have Hi:base<=Wd.heap.size:=mD hb Hb.out.size
 clear Hd
 go_wp2_with fail
 refine (zOv a Wd base gx x _ _ _ _ _ HN.out Hi HC.out.rlen.1 HC.out.rlen.2 Hc.out.fly HC.out.ids.1 (by have:=Hc.out.told;omega) (zJt HC.out Hc.out hn) (zMc HC.out) y f HY.out).mono ?_
 rintro en w9 ⟨rfl,Hg,Hh⟩
 have H9:=mA (mB Hg (Hb.out.trans Hh))
 clear Hg Hh
 go_wp2
 go_ret
 exact ⟨rfl,H9.out.1,H9.out.2⟩
theorem zTo (a:Scu.Act) (w:World) (base gx:Nat) (x:Scu.Net) (rv sv fv cv tv:Value) (hN:NetW w base gx x rv sv fv cv tv) (hb:base<=w.heap.size) (hC:Scu.Came x) (n:Nat) (hB:Scu.Bnd n x) (hn:n<=900) (h1:(a.kind == 1)=false) (h2:(a.kind == 2)=false) (h3:(a.kind == 3)=false) (k4 k5 k9:Bool) (h4:(a.kind == 4)=k4) (h5:(a.kind == 5)=k5) (h9:(a.kind == 9)=k9) (hk:(k4 || k5 || k9)=true) (y:Scu.Net) (f:Int) (hy:Scu.actAt x a=(y,f)):Calls Tryd.prog 30 #[.pointer (some ⟨gx,0,none⟩),.agg #[.int .i64 a.kind,.int .i64 a.c,.int .i64 a.r,.int .i64 a.k,.int .i64 a.n,.int .i64 a.op.kind,.int .i64 a.op.at_,.int .i64 a.op.snap,.string a.op.data]] w fun e w'=>e=.returned (.int .i64 f)/\NetE w' base gx y/\Fr base w w':=by
 cases k4
 ·cases k5
  ·cases k9
   ·cases hk
   have Ha:=zAa w (.cells (aN a) 40)
   have HN:=mA (hN.below Ha)
   have Hd:=mA (Blk.new w 40 (aN a))
   have Hb:=mA (Fr.of Ha hb)
   have HC:=mA hC
   have Hh:=mA hB
   have HY:=mA hy
   clear hN Ha hy hC hB
   go_enter Tryd.func30,Tryd.ntmps30
   go_upto_region 1 with fail
   obtain ⟨Wd,He⟩:=mJ (w.alloc (.cells (aN a) 40))
   rw [<- He] at HN Hd Hb ⊢
   clear He
   have Hc:=Hd.out
   obtain ⟨a0,a1,a2,a3,a4,a5,a6,a7,a8⟩:=cz9 Hc
   have al:=Hc.lt
   have Hi:base<=Wd.heap.size:=mD hb Hb.out.size
   clear Hc
   go_wp2_with fail
   refine (zOw a Wd base gx x _ _ _ _ _ HN.out Hi HC.out.rlen.1 HC.out.rlen.2 Hh.out.fly y f HY.out).mono ?_
   rintro en w9 ⟨rfl,Hf,Hg⟩
   have H9:=mA (mB Hf (Hb.out.trans Hg))
   clear Hf Hg
   go_wp2
   go_ret
   exact ⟨rfl,H9.out.1,H9.out.2⟩
  have Ha:=zAa w (.cells (aN a) 40)
  have HN:=mA (hN.below Ha)
  have Hd:=mA (Blk.new w 40 (aN a))
  have Hb:=mA (Fr.of Ha hb)
  have HC:=mA hC
  have Hh:=mA hB
  have HY:=mA hy
  clear hN Ha hy hC hB
  go_enter Tryd.func30,Tryd.ntmps30
  go_upto_region 1 with fail
  obtain ⟨Wd,He⟩:=mJ (w.alloc (.cells (aN a) 40))
  rw [<- He] at HN Hd Hb ⊢
  clear He
  have Hc:=Hd.out
  obtain ⟨a0,a1,a2,a3,a4,a5,a6,a7,a8⟩:=cz9 Hc
  have al:=Hc.lt
  have Hi:base<=Wd.heap.size:=mD hb Hb.out.size
  clear Hc
  go_wp2_with fail
  refine (zOw a Wd base gx x _ _ _ _ _ HN.out Hi HC.out.rlen.1 HC.out.rlen.2 Hh.out.fly y f HY.out).mono ?_
  rintro en w9 ⟨rfl,Hf,Hg⟩
  have H9:=mA (mB Hf (Hb.out.trans Hg))
  clear Hf Hg
  go_wp2
  go_ret
  exact ⟨rfl,H9.out.1,H9.out.2⟩
 have Ha:=zAa w (.cells (aN a) 40)
 have HN:=mA (hN.below Ha)
 have Hd:=mA (Blk.new w 40 (aN a))
 have Hb:=mA (Fr.of Ha hb)
 have HC:=mA hC
 have Hh:=mA hB
 have HY:=mA hy
 clear hN Ha hy hC hB
 go_enter Tryd.func30,Tryd.ntmps30
 go_upto_region 1 with fail
 obtain ⟨Wd,He⟩:=mJ (w.alloc (.cells (aN a) 40))
 rw [<- He] at HN Hd Hb ⊢
 clear He
 have Hc:=Hd.out
 obtain ⟨a0,a1,a2,a3,a4,a5,a6,a7,a8⟩:=cz9 Hc
 have al:=Hc.lt
 have Hi:base<=Wd.heap.size:=mD hb Hb.out.size
 clear Hc
 go_wp2_with fail
 refine (zOw a Wd base gx x _ _ _ _ _ HN.out Hi HC.out.rlen.1 HC.out.rlen.2 Hh.out.fly y f HY.out).mono ?_
 rintro en w9 ⟨rfl,Hf,Hg⟩
 have H9:=mA (mB Hf (Hb.out.trans Hg))
 clear Hf Hg
 go_wp2
 go_ret
 exact ⟨rfl,H9.out.1,H9.out.2⟩
theorem zRr (a:Scu.Act) (w:World) (base gx:Nat) (x:Scu.Net) (rv sv fv cv tv:Value) (hN:NetW w base gx x rv sv fv cv tv) (hb:base<=w.heap.size) (hC:Scu.Came x) (n:Nat) (hB:Scu.Bnd n x) (hn:n<=900) (h1:(a.kind == 1)=false) (h2:(a.kind == 2)=false) (h3:(a.kind == 3)=false) (h4:(a.kind == 4)=false) (h5:(a.kind == 5)=false) (h9:(a.kind == 9)=false) (k6 k7 k8 k10:Bool) (h6:(a.kind == 6)=k6) (h7:(a.kind == 7)=k7) (h8:(a.kind == 8)=k8) (Hj:(a.kind == 10)=k10) (hk:(k6 || k7 || k8 || k10)=true) (y:Scu.Net) (f:Int) (hy:Scu.actMessage x a=(y,f)):Calls Tryd.prog 30 #[.pointer (some ⟨gx,0,none⟩),.agg #[.int .i64 a.kind,.int .i64 a.c,.int .i64 a.r,.int .i64 a.k,.int .i64 a.n,.int .i64 a.op.kind,.int .i64 a.op.at_,.int .i64 a.op.snap,.string a.op.data]] w fun e w'=>e=.returned (.int .i64 f)/\NetE w' base gx y/\Fr base w w':=by
 cases k6
 ·cases k7
  ·cases k8
   ·cases k10
    ·cases hk
    have Ha:=zAa w (.cells (aN a) 40)
    have HN:=mA (hN.below Ha)
    have Hd:=mA (Blk.new w 40 (aN a))
    have Hb:=mA (Fr.of Ha hb)
    have HC:=mA hC
    have Hh:=mA hB
    have HY:=mA hy
    clear hN Ha hy hC hB
    go_enter Tryd.func30,Tryd.ntmps30
    go_upto_region 1 with fail
    obtain ⟨Wd,He⟩:=mJ (w.alloc (.cells (aN a) 40))
    rw [<- He] at HN Hd Hb ⊢
    clear He
    have Hc:=Hd.out
    obtain ⟨a0,a1,a2,a3,a4,a5,a6,a7,a8⟩:=cz9 Hc
    have al:=Hc.lt
    have Hi:base<=Wd.heap.size:=mD hb Hb.out.size
    clear Hc
    go_wp2_with fail
    refine (zIl a Wd base gx x _ _ _ _ _ HN.out Hi HC.out.rlen.1 HC.out.rlen.2 Hh.out.fly (fun m hm=>HC.out.flyTo hm) y f HY.out).mono ?_
    rintro en w9 ⟨rfl,Hf,Hg⟩
    have H9:=mA (mB Hf (Hb.out.trans Hg))
    clear Hf Hg
    go_wp2
    go_ret
    exact ⟨rfl,H9.out.1,H9.out.2⟩
   have Ha:=zAa w (.cells (aN a) 40)
   have HN:=mA (hN.below Ha)
   have Hd:=mA (Blk.new w 40 (aN a))
   have Hb:=mA (Fr.of Ha hb)
   have HC:=mA hC
   have Hh:=mA hB
   have HY:=mA hy
   clear hN Ha hy hC hB
   go_enter Tryd.func30,Tryd.ntmps30
   go_upto_region 1 with fail
   obtain ⟨Wd,He⟩:=mJ (w.alloc (.cells (aN a) 40))
   rw [<- He] at HN Hd Hb ⊢
   clear He
   have Hc:=Hd.out
   obtain ⟨a0,a1,a2,a3,a4,a5,a6,a7,a8⟩:=cz9 Hc
   have al:=Hc.lt
   have Hi:base<=Wd.heap.size:=mD hb Hb.out.size
   clear Hc
   go_wp2_with fail
   refine (zIl a Wd base gx x _ _ _ _ _ HN.out Hi HC.out.rlen.1 HC.out.rlen.2 Hh.out.fly (fun m hm=>HC.out.flyTo hm) y f HY.out).mono ?_
   rintro en w9 ⟨rfl,Hf,Hg⟩
   have H9:=mA (mB Hf (Hb.out.trans Hg))
   clear Hf Hg
   go_wp2
   go_ret
   exact ⟨rfl,H9.out.1,H9.out.2⟩
  have Ha:=zAa w (.cells (aN a) 40)
  have HN:=mA (hN.below Ha)
  have Hd:=mA (Blk.new w 40 (aN a))
  have Hb:=mA (Fr.of Ha hb)
  have HC:=mA hC
  have Hh:=mA hB
  have HY:=mA hy
  clear hN Ha hy hC hB
  go_enter Tryd.func30,Tryd.ntmps30
  go_upto_region 1 with fail
  obtain ⟨Wd,He⟩:=mJ (w.alloc (.cells (aN a) 40))
  rw [<- He] at HN Hd Hb ⊢
  clear He
  have Hc:=Hd.out
  obtain ⟨a0,a1,a2,a3,a4,a5,a6,a7,a8⟩:=cz9 Hc
  have al:=Hc.lt
  have Hi:base<=Wd.heap.size:=mD hb Hb.out.size
  clear Hc
  go_wp2_with fail
  refine (zIl a Wd base gx x _ _ _ _ _ HN.out Hi HC.out.rlen.1 HC.out.rlen.2 Hh.out.fly (fun m hm=>HC.out.flyTo hm) y f HY.out).mono ?_
  rintro en w9 ⟨rfl,Hf,Hg⟩
  have H9:=mA (mB Hf (Hb.out.trans Hg))
  clear Hf Hg
  go_wp2
  go_ret
  exact ⟨rfl,H9.out.1,H9.out.2⟩
 have Ha:=zAa w (.cells (aN a) 40)
 have HN:=mA (hN.below Ha)
 have Hd:=mA (Blk.new w 40 (aN a))
 have Hb:=mA (Fr.of Ha hb)
 have HC:=mA hC
 have Hh:=mA hB
 have HY:=mA hy
 clear hN Ha hy hC hB
 go_enter Tryd.func30,Tryd.ntmps30
 go_upto_region 1 with fail
 obtain ⟨Wd,He⟩:=mJ (w.alloc (.cells (aN a) 40))
 rw [<- He] at HN Hd Hb ⊢
 clear He
 have Hc:=Hd.out
 obtain ⟨a0,a1,a2,a3,a4,a5,a6,a7,a8⟩:=cz9 Hc
 have al:=Hc.lt
 have Hi:base<=Wd.heap.size:=mD hb Hb.out.size
 clear Hc
 go_wp2_with fail
 refine (zIl a Wd base gx x _ _ _ _ _ HN.out Hi HC.out.rlen.1 HC.out.rlen.2 Hh.out.fly (fun m hm=>HC.out.flyTo hm) y f HY.out).mono ?_
 rintro en w9 ⟨rfl,Hf,Hg⟩
 have H9:=mA (mB Hf (Hb.out.trans Hg))
 clear Hf Hg
 go_wp2
 go_ret
 exact ⟨rfl,H9.out.1,H9.out.2⟩
theorem zTp (a:Scu.Act) (w:World) (base gx:Nat) (x:Scu.Net) (rv sv fv cv tv:Value) (hN:NetW w base gx x rv sv fv cv tv) (hb:base<=w.heap.size) (hC:Scu.Came x) (n:Nat) (hB:Scu.Bnd n x) (hn:n<=900) (h1:(a.kind == 1)=false) (h2:(a.kind == 2)=false) (h3:(a.kind == 3)=false) (h4:(a.kind == 4)=false) (h5:(a.kind == 5)=false) (h9:(a.kind == 9)=false) (h6:(a.kind == 6)=false) (h7:(a.kind == 7)=false) (h8:(a.kind == 8)=false) (Hf:(a.kind == 10)=false) (y:Scu.Net) (f:Int) (hy:y=x/\f=3):Calls Tryd.prog 30 #[.pointer (some ⟨gx,0,none⟩),.agg #[.int .i64 a.kind,.int .i64 a.c,.int .i64 a.r,.int .i64 a.k,.int .i64 a.n,.int .i64 a.op.kind,.int .i64 a.op.at_,.int .i64 a.op.snap,.string a.op.data]] w fun e w'=>e=.returned (.int .i64 f)/\NetE w' base gx y/\Fr base w w':=by
 have Ha:=zAa w (.cells (aN a) 40)
 have HN:=mA (hN.below Ha)
 have Hd:=mA (Blk.new w 40 (aN a))
 have Hb:=mA (Fr.of Ha hb)
 have HC:=mA hC
 have Hg:=mA hB
 have HY:=mA hy
 clear hN Ha hy hC hB
 go_enter Tryd.func30,Tryd.ntmps30
 go_upto_region 1 with fail
 obtain ⟨Wd,He⟩:=mJ (w.alloc (.cells (aN a) 40))
 rw [<- He] at HN Hd Hb ⊢
 clear He
 have Hc:=Hd.out
 obtain ⟨a0,a1,a2,a3,a4,a5,a6,a7,a8⟩:=cz9 Hc
 have al:=Hc.lt
 have Hh:base<=Wd.heap.size:=mD hb Hb.out.size
 clear Hc
 go_wp2_with fail
 go_wp2
 go_ret
 exact ⟨zAb (zAd HY.out.2.symm),by rw [HY.out.1];exact HN.out.e,Hb.out⟩
theorem zWx (a:Scu.Act) (w:World) (base gx:Nat) (x:Scu.Net) (rv sv fv cv tv:Value) (hN:NetW w base gx x rv sv fv cv tv) (hb:base<=w.heap.size) (hC:Scu.Came x) (n:Nat) (hB:Scu.Bnd n x) (hn:n<=900) (y:Scu.Net) (f:Int) (hy:Scu.act x a=(y,f)):Calls Tryd.prog 30 #[.pointer (some ⟨gx,0,none⟩),.agg #[.int .i64 a.kind,.int .i64 a.c,.int .i64 a.r,.int .i64 a.k,.int .i64 a.n,.int .i64 a.op.kind,.int .i64 a.op.at_,.int .i64 a.op.snap,.string a.op.data]] w fun e w'=>e=.returned (.int .i64 f)/\NetE w' base gx y/\Fr base w w':=by
 unfold Scu.act at hy
 have bf:∀ j:Int,a.kind≠j->(a.kind == j)=false:=fun j h=>by rw [beq_eq_false_iff_ne];exact h
 by_cases k1:a.kind=1\/a.kind=2\/a.kind=3
 ·rw [if_pos k1] at hy
  exact zTn a w base gx x rv sv fv cv tv hN hb hC n hB hn _ _ _ rfl rfl rfl (by simpa only [Bool.or_eq_true,beq_iff_eq,or_assoc] using k1) y f hy
 rw [if_neg k1] at hy
 have n1:=bf 1 (fun h=>k1 (.inl h))
 have n2:=bf 2 (fun h=>k1 (.inr (.inl h)))
 have n3:=bf 3 (fun h=>k1 (.inr (.inr h)))
 by_cases k4:a.kind=4\/a.kind=5\/a.kind=9
 ·rw [if_pos k4] at hy
  exact zTo a w base gx x rv sv fv cv tv hN hb hC n hB hn n1 n2 n3 _ _ _ rfl rfl rfl (by simpa only [Bool.or_eq_true,beq_iff_eq,or_assoc] using k4) y f hy
 rw [if_neg k4] at hy
 have n4:=bf 4 (fun h=>k4 (.inl h))
 have n5:=bf 5 (fun h=>k4 (.inr (.inl h)))
 have n9:=bf 9 (fun h=>k4 (.inr (.inr h)))
 by_cases k6:a.kind=6\/a.kind=7\/a.kind=8\/a.kind=10
 ·rw [if_pos k6] at hy
  exact zRr a w base gx x rv sv fv cv tv hN hb hC n hB hn n1 n2 n3 n4 n5 n9 _ _ _ _ rfl rfl rfl rfl (by simpa only [Bool.or_eq_true,beq_iff_eq,or_assoc] using k6) y f hy
 rw [if_neg k6] at hy
 exact zTp a w base gx x rv sv fv cv tv hN hb hC n hB hn n1 n2 n3 n4 n5 n9 (bf 6 (fun h=>k6 (.inl h))) (bf 7 (fun h=>k6 (.inr (.inl h)))) (bf 8 (fun h=>k6 (.inr (.inr (.inl h))))) (bf 10 (fun h=>k6 (.inr (.inr (.inr h))))) y f ⟨(Prod.mk.inj hy).1.symm,(Prod.mk.inj hy).2.symm⟩
end Go.Proofs.YtnpphdaakookcaaDoor
namespace Scu
def newRep (c:Nat):Replica:=(repNew (c:Int) keptNew).1
def newCust (c:Nat):Customer:=⟨(c:Int)+1,1,req0⟩
def made (k c:Nat):Net:=⟨(List.range k).map newRep,List.replicate k stageNew,[],(List.range c).map newCust,[]⟩
theorem steps_take {x:Net} {l:List Act} {k:Nat} (hk:k < l.length) {y:Net} {cs:List Int} (h:steps x (l.take k)=(y,cs)):steps x (l.take (k+1))=((act y l[k]).1,cs ++ [(act y l[k]).2]):=by
 rw [List.take_succ_eq_append_getElem hk,zGl,h]
 rfl
theorem Bnd.steps:∀ (l:List Act) {n:Nat} {x:Net},Bnd n x->Bnd (n+l.length) (steps x l).1
 | [],_,_,h=>h
 | a :: l,n,x,h=>by
   have:=Bnd.steps l (h.act a)
   rw [show n+(a :: l).length=n+1+l.length by simp;omega]
   exact this
end Scu
namespace Go.Proofs.YtnpphdaakookcaaDoor
open Go.RowKit
def actV (a:Scu.Act):List Value:=[.int .i64 a.kind,.int .i64 a.c,.int .i64 a.r,.int .i64 a.k,.int .i64 a.n,.int .i64 a.op.kind,.int .i64 a.op.at_,.int .i64 a.op.snap,.string a.op.data]
def ActE (_:World) (_:Nat) (cs:List Value) (a:Scu.Act):Prop:=cs=actV a
theorem zDt:ElT 23 40 9 80:=by
 obtain ⟨i,h1,h2,h3,h4⟩:=info_parts (P:=Tryd.prog) (e:=40) (z:=.agg #[.int .i64 0,.int .i64 0,.int .i64 0,.int .i64 0,.int .i64 0,.int .i64 0,.int .i64 0,.int .i64 0,.string ByteArray.empty]) (size:=9) (bytes:=80) (by kernel_rfl)
 exact ⟨Tryd.underlying23,by omega,i,_,h1,h2,h3,h4,rfl⟩
abbrev IsActs (w:World) (v:Value) (l:List Scu.Act):Prop:=IsRow 40 9 80 ActE w 0 v l
theorem IsActs.below {w w':World} {v:Value} {l:List Scu.Act} (h:IsActs w v l) (hb:Below w.heap.size w w'):IsActs w' v l :=
 IsRow.same h (Ts:=[40]) (by simp) (Same.below hb) (fun _ _ h=>h)
section
variable {w w' P w4:World} {base gx:Nat} {x:Scu.Net} {rv sv fv cv tv v4:Value} {Ts:List TypeId} {B:Nat}
theorem NetW.pushRep (h:NetW P base gx x rv sv fv cv tv) {css:List (List Value)} (hf:OwnR 49 10 160 RepE P base rv x.replicas css) {cs:List Value} {m:Scu.Replica} (hx:RepE P 0 cs m) (hm:(x.replicas.length+1)*160<=R47)
 (h4:w4.ownsRow base 49 10 v4 (x.replicas.length+1) (css.flatten ++ cs)) (hg:P.grownBy w4 rv.ownBlock) (hb:base<=P.heap.size) :
 NetW (w4.setCell ⟨gx,0,none⟩ v4) base gx { x with replicas:=x.replicas ++ [m] } v4 sv fv cv tv/\Fr base P (w4.setCell ⟨gx,0,none⟩ v4):=by
 have Hb:Same [87,42,137,92,66,9,3,4,44,32,33] 0 P w4:=Same.own hf.row hg (mE _) (by decide)
 have Ha:=zAc h.box Hb (by simp)
 have Hc:Same [49,42,137,92,66,9,3,4,44,32,33] 0 w4 (w4.setCell ⟨gx,0,none⟩ v4):=Same.set_ Ha (mE _) (by decide) 0 v4
 have hs:Same [42,137,92,66,9,3,4,44,32,33] 0 P (w4.setCell ⟨gx,0,none⟩ v4):=(Hb.mono (by simp) (mC _)).trans (Hc.mono (by simp) (mC _))
 have hp:=hf.push hm hx.len (hx.same (Ts:=[9,3,4,44]) (by simp) (Hb.mono (by simp) (mC _))) h4 (fun _ _ hx=>hx.same (Ts:=[9,3,4,44]) (by simp) (Hb.mono (by simp) (mC _)))
 refine ⟨⟨Ha.set_ 0 v4,zBs ⟨_,hp⟩ Hc (by simp) (by simp),zBd h.slots hs (by simp) (by simp),zEg h.fly hs (by simp) (by simp),zCd h.cust hs (by simp),zBx h.told hs (by simp),h.lx⟩,?_⟩
 exact ⟨((mG base P).grown hg hb (fun q hq=>(hf.row.lt q hq).1)).setCell (p:=⟨gx,0,none⟩) h.lx v4,hs.mono (by simp) (mC _)⟩
theorem NetW.pushSlot (h:NetW P base gx x rv sv fv cv tv) {css:List (List Value)} (hf:OwnR 42 1 24 RowE P base sv x.slots css) {cs:List Value} {m:List Scu.Str} (hx:RowE P 0 cs m) (hm:(x.slots.length+1)*24<=R47)
 (h4:w4.ownsRow base 42 1 v4 (x.slots.length+1) (css.flatten ++ cs)) (hg:P.grownBy w4 sv.ownBlock) (hb:base<=P.heap.size) :
 NetW (w4.setCell ⟨gx,1,none⟩ v4) base gx { x with slots:=x.slots ++ [m] } rv v4 fv cv tv/\Fr base P (w4.setCell ⟨gx,1,none⟩ v4):=by
 have Hb:Same [87,49,137,92,66,9,3,4,44,32,33] 0 P w4:=Same.own hf.row hg (mE _) (by decide)
 have Ha:=zAc h.box Hb (by simp)
 have Hc:Same [49,42,137,92,66,9,3,4,44,32,33] 0 w4 (w4.setCell ⟨gx,1,none⟩ v4):=Same.set_ Ha (mE _) (by decide) 1 v4
 have hs:Same [49,137,92,66,9,3,4,44,32,33] 0 P (w4.setCell ⟨gx,1,none⟩ v4):=(Hb.mono (by simp) (mC _)).trans (Hc.mono (by simp) (mC _))
 have hp:=hf.push hm hx.len (hx.same (Ts:=[9]) (by simp) (Hb.mono (by simp) (mC _))) h4 (fun _ _ hx=>hx.same (Ts:=[9]) (by simp) (Hb.mono (by simp) (mC _)))
 refine ⟨⟨Ha.set_ 1 v4,zBs h.reps hs (by simp) (by simp),zBd ⟨_,hp⟩ Hc (by simp) (by simp),zEg h.fly hs (by simp) (by simp),zCd h.cust hs (by simp),zBx h.told hs (by simp),h.lx⟩,?_⟩
 exact ⟨((mG base P).grown hg hb (fun q hq=>(hf.row.lt q hq).1)).setCell (p:=⟨gx,1,none⟩) h.lx v4,hs.mono (by simp) (mC _)⟩
theorem NetW.pushCust (h:NetW P base gx x rv sv fv cv tv) {css:List (List Value)} (hf:OwnR 92 8 72 CustE P base cv x.clients css) {u:Scu.Customer} (hm:(x.clients.length+1)*72<=R47)
 (h4:w4.ownsRow base 92 8 v4 (x.clients.length+1) (css.flatten ++ custV u)) (hg:P.grownBy w4 cv.ownBlock) (hb:base<=P.heap.size) :
 NetW (w4.setCell ⟨gx,3,none⟩ v4) base gx { x with clients:=x.clients ++ [u] } rv sv fv v4 tv/\Fr base P (w4.setCell ⟨gx,3,none⟩ v4):=by
 have Hb:Same [87,49,42,66,137,9,3,4,44,32,33] 0 P w4:=Same.own hf.row hg (mE _) (by decide)
 have Ha:=zAc h.box Hb (by simp)
 have Hc:Same [49,42,137,92,66,9,3,4,44,32,33] 0 w4 (w4.setCell ⟨gx,3,none⟩ v4):=Same.set_ Ha (mE _) (by decide) 3 v4
 have hs:Same [49,42,66,137,9,3,4,44,32,33] 0 P (w4.setCell ⟨gx,3,none⟩ v4):=(Hb.mono (by simp) (mC _)).trans (Hc.mono (by simp) (mC _))
 have hp:=hf.push hm (x:=u) (cs:=custV u) rfl rfl h4 (fun _ _ hx=>hx)
 refine ⟨⟨Ha.set_ 3 v4,zBs h.reps hs (by simp) (by simp),zBd h.slots hs (by simp) (by simp),zEg h.fly hs (by simp) (by simp),zCd ⟨_,hp⟩ Hc (by simp),zBx h.told hs (by simp),h.lx⟩,?_⟩
 exact ⟨((mG base P).grown hg hb (fun q hq=>(hf.row.lt q hq).1)).setCell (p:=⟨gx,3,none⟩) h.lx v4,hs.mono (by simp) (mC _)⟩
theorem NetW.other {g:Nat} {cs:Array Value} (h:NetW w base gx x rv sv fv cv tv) (hB:Blk w g 32 cs) (i:Nat) (u:Value):NetW (w.setCell ⟨g,i,none⟩ u) base gx x rv sv fv cv tv :=
 h.same (Same.set_ hB (mE _) (by decide) i u)
end
structure OutW (w:World) (rv sv fv cv tv ov:Value) (o:Scu.Outcome):Prop where
 reps:IsRow 49 10 160 RepE w 0 rv o.replicas
 slots:IsRow 42 1 24 RowE w 0 sv o.slots
 fly:IsRow 137 8 80 MsgE w 0 fv o.flying
 cust:IsRow 92 8 72 CustE w 0 cv o.clients
 told:IsRow 66 9 88 ToldE w 0 tv o.told
 codes:IsOnes 33 8 (Value.int .i64) w 0 ov o.codes
theorem OutW.below {w w':World} {rv sv fv cv tv ov:Value} {o:Scu.Outcome} (h:OutW w rv sv fv cv tv ov o) (hb:Below w.heap.size w w'):OutW w' rv sv fv cv tv ov o :=
 ⟨IsRow.same h.reps (Ts:=[49,9,3,4,44]) (by simp) (Same.below hb) (fun _ _ h=>h.same (Ts:=[9,3,4,44]) (by simp) (Same.below hb)),
  IsRow.same h.slots (Ts:=[42,9]) (by simp) (Same.below hb) (fun _ _ h=>h.same (Ts:=[9]) (by simp) (Same.below hb)),IsMs.below h.fly hb,
  IsRow.same h.cust (Ts:=[92]) (by simp) (Same.below hb) (fun _ _ h=>h),IsRow.same h.told (Ts:=[66]) (by simp) (Same.below hb) (fun _ _ h=>h),h.codes.below hb⟩
structure RunC (w W:World) (gq:Nat) (y:Scu.Net) (rv sv fv cv tv ov:Value) (codes:List Int):Prop where
 net:NetW W w.heap.size (w.heap.size+1) y rv sv fv cv tv
 res:Blk W w.heap.size 32 #[.slice none 0 0,.slice none 0 0,.slice none 0 0,.slice none 0 0,.slice none 0 0,.slice none 0 0]
 out:Blk W gq 32 #[.slice none 0 0,.slice none 0 0,.slice none 0 0,.slice none 0 0,.slice none 0 0,ov]
 codes:W.ownsRow w.heap.size 33 1 ov codes.length (codes.map (Value.int .i64))
 low:Below w.heap.size w W
 gq:w.heap.size+1 < gq
theorem RunC.below {w W W':World} {gq:Nat} {y:Scu.Net} {rv sv fv cv tv ov:Value} {codes:List Int} (h:RunC w W gq y rv sv fv cv tv ov codes) (hb:Below W.heap.size W W'):RunC w W' gq y rv sv fv cv tv ov codes :=
 ⟨h.net.below hb,h.res.same hb,h.out.same hb,zGs (B:=0) (Ts:=[33]) h.codes (by simp) (Same.below hb),h.low.trans (hb.mono h.low.size),h.gq⟩
theorem RunC.acted {w W W':World} {gq:Nat} {y y':Scu.Net} {rv sv fv cv tv rv' sv' fv' cv' tv' ov:Value} {codes:List Int} (h:RunC w W gq y rv sv fv cv tv ov codes) (hn:NetW W' w.heap.size (w.heap.size+1) y' rv' sv' fv' cv' tv') (hf:Fr w.heap.size W W'):RunC w W' gq y' rv' sv' fv' cv' tv' ov codes :=
 ⟨hn,zAc h.res hf.2 (by simp),zAc h.out hf.2 (by simp),zGs h.codes (by simp) hf.2,h.low.trans hf.1,h.gq⟩
theorem RunC.push {w P w4:World} {gq:Nat} {y:Scu.Net} {rv sv fv cv tv ov v4:Value} {codes:List Int} {f:Int} (h:RunC w P gq y rv sv fv cv tv ov codes)
 (h4:w4.ownsRow w.heap.size 33 1 v4 (codes.length+1) (codes.map (Value.int .i64) ++ [.int .i64 f])) (hg:P.grownBy w4 ov.ownBlock):RunC w (w4.setCell ⟨gq,5,none⟩ v4) gq y rv sv fv cv tv v4 (codes ++ [f]):=by
 have Ha:Same [32,87,49,42,137,92,66,9,3,4,44] 0 P w4:=Same.own h.codes hg (mE _) (by decide)
 have ho:=zAc h.out Ha (by simp)
 have hr:=zAc h.res Ha (by simp)
 refine ⟨(h.net.same (Ha.mono (by simp) (mC _))).other ho 5 v4,?_,ho.set_ 5 v4,?_,(h.low.grown hg h.low.size (fun q hq=>(h.codes.lt q hq).1)).setCell (p:=⟨gq,5,none⟩) (Nat.le_of_lt (Nat.lt_of_succ_lt h.gq)) v4,h.gq⟩
 ·have:w.heap.size≠gq:=by have:=h.gq;omega
  unfold Blk at hr ⊢
  rw [<- hr]
  exact Below.heap_setCell w4 ⟨gq,5,none⟩ v4 w.heap.size this
 rw [List.length_append,List.map_append]
 exact zGs (B:=0) (Ts:=[33]) h4 (by simp) (Same.set_ ho (mE _) (by decide) 5 v4)
theorem Same.low {Ts:List TypeId} {w W W':World} (h:Same Ts 0 w W) (hb:Below w.heap.size W W'):Same Ts 0 w W' :=
 ⟨mD h.size hb.size,fun g hg hh=>(hb.block g hg).trans (h.keep g hg hh)⟩
structure RunD (w W0 W:World) (gq:Nat) (rs:List Scu.Replica) (ss:List (List Scu.Str)) (r t:Nat) (orv osv ov:Value):Prop where
 same:Same [87,49,42,137,92,66,9,3,4,44,33] 0 W0 W
 res:Blk W w.heap.size 32 #[.slice none 0 0,.slice none 0 0,.slice none 0 0,.slice none 0 0,.slice none 0 0,.slice none 0 0]
 out:Blk W gq 32 #[orv,osv,.slice none 0 0,.slice none 0 0,.slice none 0 0,ov]
 reps:∃ css,OwnR 49 10 160 RepE W W0.heap.size orv (rs.take r) css
 slots:∃ css,OwnR 42 1 24 RowE W W0.heap.size osv (ss.take t) css
 low:Below w.heap.size w W
section
variable {w W0 W W' P w4:World} {gq r t:Nat} {rs:List Scu.Replica} {ss:List (List Scu.Str)} {orv osv ov v4:Value}
theorem RunD.below (h:RunD w W0 W gq rs ss r t orv osv ov) (hb:Below W.heap.size W W'):RunD w W0 W' gq rs ss r t orv osv ov :=
 ⟨h.same.low (hb.mono h.same.size),h.res.same hb,h.out.same hb,zBs h.reps (Ts:=[49,9,3,4,44]) (Same.below hb) (by simp) (by simp),zBd h.slots (Ts:=[42,9]) (Same.below hb) (by simp) (by simp),h.low.trans (hb.mono h.low.size)⟩
theorem RunD.push (h:RunD w W0 P gq rs ss r t orv osv ov) (Hf:w.heap.size < gq) (hw:w.heap.size<=W0.heap.size) {n:Nat} {css:List (List Value)} (hf:OwnR 49 10 160 RepE P W0.heap.size orv (rs.take r) css) (hn:n=(rs.take r).length) {cs:List Value} {m:Scu.Replica} (hx:RepE P 0 cs m) (hm:(n+1)*160<=R47)
 (h4:w4.ownsRow W0.heap.size 49 10 v4 (n+1) (css.flatten ++ cs)) (hg:P.grownBy w4 orv.ownBlock) (hr:r < rs.length) (Hg:rs[r]=m) :
 RunD w W0 (w4.setCell ⟨gq,0,none⟩ v4) gq rs ss (r+1) t v4 osv ov:=by
 subst hn
 subst Hg
 have Ha:Same [32,42,9,3,4,44] 0 P w4:=Same.own hf.row hg (mE _) (by decide)
 have Hb:=zAc h.out Ha (by simp)
 have Hc:=zAc h.res Ha (by simp)
 have He:Below W0.heap.size P w4:=(mG _ P).grown hg h.same.size (fun q hq=>(hf.row.lt q hq).1)
 have Hd:Same [87,49,42,137,92,66,9,3,4,44,33] 0 w4 (w4.setCell ⟨gq,0,none⟩ v4):=Same.set_ Hb (mE _) (by decide) 0 v4
 have hp:=hf.push hm hx.len (hx.same (Ts:=[9,3,4,44]) (by simp) (Ha.mono (by simp) (mC _))) h4 (fun _ _ hx=>hx.same (Ts:=[9,3,4,44]) (by simp) (Ha.mono (by simp) (mC _)))
 rw [<- List.take_succ_eq_append_getElem hr] at hp
 obtain ⟨c2,Hh⟩:=zBs ⟨_,hp⟩ Hd (by simp) (by simp)
 refine ⟨(h.same.low He).trans Hd,?_,Hb.set_ 0 v4,⟨_,Hh⟩,zBd (zBd h.slots Ha (by simp) (by simp)) Hd (by simp) (by simp),((h.low.trans (He.mono hw))).setCell (p:=⟨gq,0,none⟩) (Nat.le_of_lt Hf) v4⟩
 unfold Blk at Hc ⊢
 rw [<- Hc]
 exact Below.heap_setCell w4 ⟨gq,0,none⟩ v4 w.heap.size (by show w.heap.size≠gq;omega)
theorem RunD.pushS (h:RunD w W0 P gq rs ss r t orv osv ov) (Hf:w.heap.size < gq) (hw:w.heap.size<=W0.heap.size) {n:Nat} {css:List (List Value)} (hf:OwnR 42 1 24 RowE P W0.heap.size osv (ss.take t) css) (hn:n=(ss.take t).length) {cs:List Value} {m:List Scu.Str} (hx:RowE P 0 cs m) (hm:(n+1)*24<=R47)
 (h4:w4.ownsRow W0.heap.size 42 1 v4 (n+1) (css.flatten ++ cs)) (hg:P.grownBy w4 osv.ownBlock) (hr:t < ss.length) (Hg:ss[t]=m) :
 RunD w W0 (w4.setCell ⟨gq,1,none⟩ v4) gq rs ss r (t+1) orv v4 ov:=by
 subst hn
 subst Hg
 have Ha:Same [32,49,9,3,4,44] 0 P w4:=Same.own hf.row hg (mE _) (by decide)
 have Hb:=zAc h.out Ha (by simp)
 have Hc:=zAc h.res Ha (by simp)
 have He:Below W0.heap.size P w4:=(mG _ P).grown hg h.same.size (fun q hq=>(hf.row.lt q hq).1)
 have Hd:Same [87,49,42,137,92,66,9,3,4,44,33] 0 w4 (w4.setCell ⟨gq,1,none⟩ v4):=Same.set_ Hb (mE _) (by decide) 1 v4
 have hp:=hf.push hm hx.len (hx.same (Ts:=[9]) (by simp) (Ha.mono (by simp) (mC _))) h4 (fun _ _ hx=>hx.same (Ts:=[9]) (by simp) (Ha.mono (by simp) (mC _)))
 rw [<- List.take_succ_eq_append_getElem hr] at hp
 refine ⟨(h.same.low He).trans Hd,?_,Hb.set_ 1 v4,zBs (zBs h.reps Ha (by simp) (by simp)) Hd (by simp) (by simp),zBd ⟨_,hp⟩ Hd (by simp) (by simp),((h.low.trans (He.mono hw))).setCell (p:=⟨gq,1,none⟩) (Nat.le_of_lt Hf) v4⟩
 unfold Blk at Hc ⊢
 rw [<- Hc]
 exact Below.heap_setCell w4 ⟨gq,1,none⟩ v4 w.heap.size (by show w.heap.size≠gq;omega)
end
end Go.Proofs.YtnpphdaakookcaaDoor
