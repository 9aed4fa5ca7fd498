/- Part 29: words and walks under the laws of the whole. -/
import Derived.Test.YtnpphdaakookcaaDoorQ18
import Derived.Test.YtnpphdaakookcaaDoorQ19
import Derived.Test.YtnpphdaakookcaaDoorQ23
import Derived.Test.YtnpphdaakookcaaDoorQ28
set_option linter.unusedVariables false
set_option linter.unusedSimpArgs false
set_option maxHeartbeats 4000000
set_option maxRecDepth 100000
namespace Go.Proofs.YtnpphdaakookcaaDoor
open Go.RowKit
theorem zFo (w:World) (a b:Obj):Below w.heap.size w ((w.alloc a).alloc b):=(zAa w a).alloc (by simp) b
theorem zJs (A A':Option Addr) (n n' c c':Nat) (a b:Scu.Kept) (w:World) (B B':Nat) (hv:IsStrs w B (.slice A n c) a.log) (hu:IsStrs w B' (.slice A' n' c') b.log) (q:Bool) (hq:decide (a=b)=q) :
 Calls Tryd.prog 77 #[.agg #[.int .i64 a.view,.int .i64 a.normal,.bool a.calm,.slice A n c,.int .i64 a.commit],.agg #[.int .i64 b.view,.int .i64 b.normal,.bool b.calm,.slice A' n' c',.int .i64 b.commit]] w
  fun e w'=>e=.returned (.bool q)/\Below w.heap.size w w':=by
 subst hq
 cases t1:(a.view == b.view) with
 | false =>
   have hd:decide (a=b)=false:=by rw [decide_eq_false_iff_not];intro e;subst e;simp at t1
   rw [hd]
   have HB:=mA (zFo w (.cells #[.int .i64 a.view,.int .i64 a.normal,.bool a.calm,.slice A n c,.int .i64 a.commit] 44) (.cells #[.int .i64 b.view,.int .i64 b.normal,.bool b.calm,.slice A' n' c',.int .i64 b.commit] 44))
   clear hd hv hu
   go_enter Tryd.func77,Tryd.ntmps77
   go_wp2
   go_ret
   exact ⟨rfl,HB.out⟩
 | true =>
 cases t2:(a.normal == b.normal) with
 | false =>
   have hd:decide (a=b)=false:=by rw [decide_eq_false_iff_not];intro e;subst e;simp at t2
   rw [hd]
   have HB:=mA (zFo w (.cells #[.int .i64 a.view,.int .i64 a.normal,.bool a.calm,.slice A n c,.int .i64 a.commit] 44) (.cells #[.int .i64 b.view,.int .i64 b.normal,.bool b.calm,.slice A' n' c',.int .i64 b.commit] 44))
   clear hd hv hu
   go_enter Tryd.func77,Tryd.ntmps77
   go_wp2
   go_ret
   exact ⟨rfl,HB.out⟩
 | true =>
 cases t3:(a.calm == b.calm) with
 | false =>
   have hd:decide (a=b)=false:=by rw [decide_eq_false_iff_not];intro e;subst e;simp at t3
   rw [hd]
   have HB:=mA (zFo w (.cells #[.int .i64 a.view,.int .i64 a.normal,.bool a.calm,.slice A n c,.int .i64 a.commit] 44) (.cells #[.int .i64 b.view,.int .i64 b.normal,.bool b.calm,.slice A' n' c',.int .i64 b.commit] 44))
   clear hd hv hu
   go_enter Tryd.func77,Tryd.ntmps77
   go_wp2
   go_ret
   exact ⟨rfl,HB.out⟩
 | true =>
 cases t4:(a.commit == b.commit) with
 | false =>
   have hd:decide (a=b)=false:=by rw [decide_eq_false_iff_not];intro e;subst e;simp at t4
   rw [hd]
   have HB:=mA (zFo w (.cells #[.int .i64 a.view,.int .i64 a.normal,.bool a.calm,.slice A n c,.int .i64 a.commit] 44) (.cells #[.int .i64 b.view,.int .i64 b.normal,.bool b.calm,.slice A' n' c',.int .i64 b.commit] 44))
   clear hd hv hu
   go_enter Tryd.func77,Tryd.ntmps77
   go_wp2
   go_ret
   exact ⟨rfl,HB.out⟩
 | true =>
 have hd:decide (a=b)=decide (a.log=b.log):=by
  obtain ⟨v1,n1,c1,l1,m1⟩:=a
  obtain ⟨v2,n2,c2,l2,m2⟩:=b
  simp only [beq_iff_eq] at t1 t2 t3 t4
  subst t1 t2 t3 t4
  simp
 rw [hd]
 obtain ⟨d,Ha⟩:=mK (decide (a.log=b.log))
 rw [Ha]
 have HD:=mA Ha
 clear Ha
 have b1:=zFo w (.cells #[.int .i64 a.view,.int .i64 a.normal,.bool a.calm,.slice A n c,.int .i64 a.commit] 44) (.cells #[.int .i64 b.view,.int .i64 b.normal,.bool b.calm,.slice A' n' c',.int .i64 b.commit] 44)
 have HV:=mA (hv.below b1)
 have HU:=mA (hu.below b1)
 have HB:=mA b1
 clear hd hv hu b1
 go_enter Tryd.func77,Tryd.ntmps77
 go_wp2_with fail
 refine (zQa _ _ _ _ _ B B' HV.out HU.out).mono ?_;rintro e w7 ⟨rfl,m7,rfl⟩
 rw [HD.out]
 cases d
 all_goals
  go_wp2
  go_ret
  exact ⟨rfl,below_drewN HB.out _⟩
theorem zIb {P:Program} {ops:Array Oper} {Q:Exit->Act->World->Prop} {md:Region.Mode} {S:World->Prop} {t:Nat} {i:Nat} (f:Nat) {oi:Oper} {v:Value} {fuel:Nat} {listed:Array Bool} {a:Act} {w:World} (hi:ops.toList[i]? = some oi)
 (hs:Region.noSelect ops=true) (hf:Region.free md ops listed i=true) (hr:(Region.ready md ops listed).contains i=true) (Ha:reachB md ops i f t=true)
 (hQ:∀ c a w,Q (.panic c) (a.put oi.dst v) w->Q (.panic c) a w) (hy:YieldsIf P ops S oi v a) (Hb:ShutL md ops listed) (hS:S w)
 (h:ShutL md ops (listed.setIfInBounds i true)->wpAnyE P md ops Q S t fuel (listed.setIfInBounds i true) (a.put oi.dst v) w):wpAnyE P md ops Q S t (fuel+1) listed a w :=
 zAi f (by rw [<- Array.getElem?_toList];exact hi) hs hf hr Ha hQ hy Hb hS h
theorem zIc (A0:Option Addr) (n0 c0:Nat) (A2:Option Addr) (n2 c2:Nat) (l:List Scu.Str) (k:Scu.Kept) (up:Int) (w:World) (B BK:Nat) (hv:IsStrs w B (.slice A0 n0 c0) l) (hk:IsStrs w BK (.slice A2 n2 c2) k.log) (l':List Scu.Str) (f:Int) (h:Scu.store l k up=(l',f)) :
 Calls Tryd.prog 79 #[.slice A0 n0 c0,.agg #[.int .i64 k.view,.int .i64 k.normal,.bool k.calm,.slice A2 n2 c2,.int .i64 k.commit],.int .i64 up] w fun e w'=>(∃ Au nu cu,e=.returned (.tuple #[.slice Au nu cu,.int .i64 f])/\IsStrs w' 0 (.slice Au nu cu) l')/\Below w.heap.size w w':=by
 have:=zNo _ _ l k up w B BK hv hk
 rw [h] at this
 refine this.mono ?_
 rintro e w' ⟨⟨u,rfl,ho⟩,hb⟩
 obtain ⟨A,n,c,rfl⟩:=ho.is.form
 exact ⟨⟨_,_,_,rfl,ho.is⟩,hb⟩
theorem IsMs.below {w w':World} {v:Value} {ms:List Scu.Message} (h:IsRow 137 8 80 MsgE w 0 v ms) (hb:Below w.heap.size w w'):IsRow 137 8 80 MsgE w' 0 v ms :=
 h.same (Ts:=[9,137]) (by simp) (Same.below hb) (fun _ _ h=>h.same (Ts:=[9]) (by simp) (Same.below hb))
theorem IsMs.keep {w w':World} {v:Value} {ms:List Scu.Message} (h:IsRow 137 8 80 MsgE w 0 v ms) (hs:Same [9,137] 0 w w'):IsRow 137 8 80 MsgE w' 0 v ms :=
 h.same (Ts:=[9,137]) (by simp) hs (fun _ _ h=>h.same (Ts:=[9,137]) (by simp) hs)
structure StlI (W:World) (base gx gb:Nat) (x:Scu.Net) (rv sv fv cv tv:Value) (next:Scu.Replica) (E0:Option Addr) (m0 z0:Nat) (E1:Option Addr) (z1:Nat) (E2:Option Addr) (z2:Nat) (E3:Option Addr) (z3:Nat) (E4:Option Addr) (z4:Nat) (ov:Value) (ms:List Scu.Message) (w:World):Prop where
 net:NetW W base gx x rv sv fv cv tv
 box:Blk W gb 49 #[.int .i64 next.me,.int .i64 next.kept.view,.int .i64 next.kept.normal,.bool next.kept.calm,.slice E0 m0 z0,.int .i64 next.kept.commit,.slice E1 next.have_.length z1,.slice E2 next.wants.length z2,.slice E3 next.gives.length z3,.slice E4 next.given.length z4]
 rep:IsRep W 0 (.slice E0 m0 z0) (.slice E1 next.have_.length z1) (.slice E2 next.wants.length z2) (.slice E3 next.gives.length z3) (.slice E4 next.given.length z4) next
 row:IsRow 137 8 80 MsgE W 0 ov ms
 fr:Fr base w W
 le:base<=W.heap.size
theorem StlI.below {W W':World} {base gx gb:Nat} {x:Scu.Net} {rv sv fv cv tv:Value} {next:Scu.Replica} {E0:Option Addr} {m0 z0:Nat} {E1:Option Addr} {z1:Nat} {E2:Option Addr} {z2:Nat} {E3:Option Addr} {z3:Nat} {E4:Option Addr} {z4:Nat} {ov:Value} {ms:List Scu.Message} {w:World} (h:StlI W base gx gb x rv sv fv cv tv next E0 m0 z0 E1 z1 E2 z2 E3 z3 E4 z4 ov ms w) (hb:Below W.heap.size W W') :
 StlI W' base gx gb x rv sv fv cv tv next E0 m0 z0 E1 z1 E2 z2 E3 z3 E4 z4 ov ms w :=
 ⟨h.net.below hb,h.box.same hb,h.rep.below hb,IsMs.below h.row hb,h.fr.trans (Fr.of hb h.le),mD h.le hb.size⟩
theorem StlI.put {W:World} {base gx gb g n c k:Nat} {x:Scu.Net} {sv fv cv tv:Value} {next:Scu.Replica} {E0:Option Addr} {m0 z0:Nat} {E1:Option Addr} {z1:Nat} {E2:Option Addr} {z2:Nat} {E3:Option Addr} {z3:Nat} {E4:Option Addr} {z4:Nat} {ov:Value} {ms:List Scu.Message} {w:World} (h:StlI W base gx gb x (.slice (some ⟨g,0,none⟩) n c) sv fv cv tv next E0 m0 z0 E1 z1 E2 z2 E3 z3 E4 z4 ov ms w) (hk:k < x.replicas.length) :
 NetW (W.setCells g (k*10) [.int .i64 next.me,.int .i64 next.kept.view,.int .i64 next.kept.normal,.bool next.kept.calm,.slice E0 m0 z0,.int .i64 next.kept.commit,.slice E1 next.have_.length z1,.slice E2 next.wants.length z2,.slice E3 next.gives.length z3,.slice E4 next.given.length z4]) base gx { x with replicas:=x.replicas.set k next } (.slice (some ⟨g,0,none⟩) n c) sv fv cv tv/\Fr base w (W.setCells g (k*10) [.int .i64 next.me,.int .i64 next.kept.view,.int .i64 next.kept.normal,.bool next.kept.calm,.slice E0 m0 z0,.int .i64 next.kept.commit,.slice E1 next.have_.length z1,.slice E2 next.wants.length z2,.slice E3 next.gives.length z3,.slice E4 next.given.length z4])/\IsRow 137 8 80 MsgE (W.setCells g (k*10) [.int .i64 next.me,.int .i64 next.kept.view,.int .i64 next.kept.normal,.bool next.kept.calm,.slice E0 m0 z0,.int .i64 next.kept.commit,.slice E1 next.have_.length z1,.slice E2 next.wants.length z2,.slice E3 next.gives.length z3,.slice E4 next.given.length z4]) 0 ov ms/\base<=(W.setCells g (k*10) [.int .i64 next.me,.int .i64 next.kept.view,.int .i64 next.kept.normal,.bool next.kept.calm,.slice E0 m0 z0,.int .i64 next.kept.commit,.slice E1 next.have_.length z1,.slice E2 next.wants.length z2,.slice E3 next.gives.length z3,.slice E4 next.given.length z4]).heap.size:=by
 obtain ⟨hP,hF⟩:=h.net.putRep hk (cs:=(rL next E0 m0 z0 E1 z1 E2 z2 E3 z3 E4 z4)) ⟨_,_,_,_,_,rfl,h.rep⟩
 obtain ⟨css,hr⟩:=h.net.reps
 obtain ⟨_,_,_,e,_,⟨cur,hB⟩,_⟩:=hr.at_ hk
 cases e
 exact ⟨hP,h.fr.trans hF,IsMs.keep h.row (Same.sets _ _ _ cur hB (by decide)),mD h.le hF.size⟩
theorem zWh (r:Nat) (next:Scu.Replica) (lu hv wv gv nv:Value) (A:Option Addr) (c:Nat) (ms:List Scu.Message) (upto:Int) (w:World) (base gx:Nat) (x:Scu.Net) (rv sv fv cv tv:Value) (hN:NetW w base gx x rv sv fv cv tv) (hb:base<=w.heap.size) (hr:r < x.replicas.length) (hs:r < x.slots.length) (Hp:x.replicas.length=3) (He:IsRep w 0 lu hv wv gv nv next) (Hq:IsRow 137 8 80 MsgE w 0 (.slice A ms.length c) ms) (Hr:∀ g,(Value.slice A ms.length c).ownBlock=some g->fv.ownBlock≠some g) (Ka:x.flying.length<=80) (Hs:next.kept=x.replicas[r].kept) (Kb:upto < 0) (y:Scu.Net) (f:Int) (hy:y = { x with replicas:=x.replicas.set r next,flying:=Scu.sendAll x.flying ms }/\f=0) :
 Calls Tryd.prog 65 #[.pointer (some ⟨gx,0,none⟩),.int .i64 r,.agg #[.int .i64 next.me,.int .i64 next.kept.view,.int .i64 next.kept.normal,.bool next.kept.calm,lu,.int .i64 next.kept.commit,hv,wv,gv,nv],.slice A ms.length c,.int .i64 upto] w fun e w'=>e=.returned (.int .i64 f)/\NetE w' base gx y/\Fr base w w':=by
 have Kc:=mA (show decide (next.kept=x.replicas[r].kept)=true by rw [decide_eq_true_eq];exact Hs)
 have HY:=mA hy
 clear Hs hy
 have Kd:decide (upto < 0)=true:=by simpa using Kb
 have Kh:=mA Hp
 clear Hp
 obtain ⟨B0,e0,B1,e1,B2,e2,B3,e3,B4,e4,rfl,rfl,rfl,rfl,rfl⟩:=hN.forms
 obtain ⟨E0,m0,z0,E1,z1,E2,z2,E3,z3,E4,z4,rfl,rfl,rfl,rfl,rfl⟩:=He.forms
 obtain ⟨gr,cr,lu0,Ki,wv0,gv0,nv0,er',Ke,Kj,Hl,Hm,-,curr,Ht⟩:=hN.repAt hr
 obtain ⟨rfl,rfl⟩:B0=some ⟨gr,0,none⟩/\e0=cr:=by cases er';exact ⟨rfl,rfl⟩
 obtain ⟨rk,Hn⟩:=mK (x.replicas[r])
 rw [Hn] at Hm Hl
 obtain ⟨Ak,nk,ck,rfl⟩:=Hl.log.form
 have Hf:=zAa w (.cells (rN next E0 m0 z0 E1 z1 E2 z2 E3 z3 E4 z4) 49)
 have HI:=mA (show StlI (w.alloc (.cells (rN next E0 m0 z0 E1 z1 E2 z2 E3 z3 E4 z4) 49)) base gx w.heap.size x (.slice (some ⟨gr,0,none⟩) x.replicas.length e0) (.slice B1 x.slots.length e1) (.slice B2 x.flying.length e2) (.slice B3 x.clients.length e3) (.slice B4 x.told.length e4) next E0 m0 z0 E1 z1 E2 z2 E3 z3 E4 z4 (.slice A ms.length c) ms w from
  ⟨hN.below Hf,Blk.new _ _ _,He.below Hf,IsMs.below Hq Hf,Fr.of Hf hb,mD hb Hf.size⟩)
 have Hh:=mA (World.rangeAt_alloc Hm (.cells (rN next E0 m0 z0 E1 z1 E2 z2 E3 z3 E4 z4) 49))
 have Hu:=mA (Hl.log.below Hf)
 have Kf:=mA Hr
 have Kg:=mA Hn
 have nxr:gx≠gr:=zAo hN.box Ht (by decide)
 have nbr:w.heap.size≠gr:=by omega
 have Kk:(r:Int) < (x.replicas.length:Int):=by omega
 have Kl:(r:Int) < (x.slots.length:Int):=by omega
 clear hN He Hq er' Hm Hl Hr Hn Hf Ht Ke
 go_enter Tryd.func65,Tryd.ntmps65
 go_upto_region 1 with fail
 obtain ⟨Wd,Hv⟩:=mJ (w.alloc (.cells (rN next E0 m0 z0 E1 z1 E2 z2 E3 z3 E4 z4) 49))
 rw [<- Hv] at HI Hh Hu ⊢
 clear Hv
 have Hg:=HI.out.box
 obtain ⟨-,n1,n2,n3,n4,n5⟩:=cz6 Hg
 have d0:=cz1 HI.out.net.box
 have p1:Wd.cell? ⟨gr,r*10+1,none⟩=some (.int .i64 rk.kept.view):=Hh.out 1 _ rfl
 have p2:Wd.cell? ⟨gr,r*10+2,none⟩=some (.int .i64 rk.kept.normal):=Hh.out 2 _ rfl
 have p3:Wd.cell? ⟨gr,r*10+3,none⟩=some (.bool rk.kept.calm):=Hh.out 3 _ rfl
 have p4:Wd.cell? ⟨gr,r*10+4,none⟩=some (.slice Ak nk ck):=Hh.out 4 _ rfl
 have p5:Wd.cell? ⟨gr,r*10+5,none⟩=some (.int .i64 rk.kept.commit):=Hh.out 5 _ rfl
 have dl:=HI.out.net.box.lt
 have nl:=Hg.lt
 have gl:gr < Wd.heap.size:=by omega
 clear Hg
 go_wp2_with fail
 obtain ⟨S,Hb⟩:∃ S:World->Prop,S=fun w'=>w'.cell? ⟨gx,0,none⟩=some (.slice (some ⟨gr,0,none⟩) x.replicas.length e0)/\w'.cell? ⟨w.heap.size,1,none⟩=some (.int .i64 next.kept.view)/\w'.cell? ⟨w.heap.size,2,none⟩=some (.int .i64 next.kept.normal)/\w'.cell? ⟨w.heap.size,3,none⟩=some (.bool next.kept.calm)/\w'.cell? ⟨w.heap.size,4,none⟩=some (.slice E0 m0 z0)/\w'.cell? ⟨w.heap.size,5,none⟩=some (.int .i64 next.kept.commit)/\w'.cell? ⟨gr,r*10+1,none⟩=some (.int .i64 rk.kept.view)/\w'.cell? ⟨gr,r*10+2,none⟩=some (.int .i64 rk.kept.normal)/\w'.cell? ⟨gr,r*10+3,none⟩=some (.bool rk.kept.calm)/\w'.cell? ⟨gr,r*10+4,none⟩=some (.slice Ak nk ck)/\w'.cell? ⟨gr,r*10+5,none⟩=some (.int .i64 rk.kept.commit):=⟨_,rfl⟩
 have Hc:S Wd.drew:=by rw [Hb];exact ⟨d0,n1,n2,n3,n4,n5,p1,p2,p3,p4,p5⟩
 refine zAq S 14 (by kernel_rfl) (fun Ha=>?_)
 change wpAnyE _ _ _ _ _ _ _ _ _ Wd.drew
 refine tkEs 10 [0,1,2,3,4,5,6,7,8,9] (by kernel_rfl) (fun _ _ _ _ _ h=>h) Ha Hc ?_
 iterate 10
  refine tkc (v:=?_) rfl (Or.inl ⟨by rfl,?_⟩) ?_
  rotate_left
  ·(intro wv Hd;rw [Hb] at Hd;obtain ⟨s0,s1,s2,s3,s4,s5,s6,s7,s8,s9,s10⟩:=Hd;go_simp;(try with_reducible rfl))
  (try simp only [Act.put,zp1,zp2,zp3])
 refine tkz (fun Ha=>?_)
 refine alE 10 (by kernel_rfl) (wpOp_step (o:=_) rfl fun KS Hw=>?_)
 go_simp
 refine (zJs E0 Ak m0 nk z0 ck next.kept rk.kept Wd.drew 0 0 (HI.out.rep.log.below (mG _ _).drew) (Hu.out.below (mG _ _).drew) true (by rw [<- Kg.out];exact Kc.out)).mono ?_;rintro en x1 ⟨rfl,k1⟩
 have nn1:Below Wd.heap.size Wd x1:=(mG _ _).drew.trans k1
 have f0:=cW nn1 dl d0
 have f1:=cW nn1 nl n1
 have f2:=cW nn1 nl n2
 have f3:=cW nn1 nl n3
 have f4:=cW nn1 nl n4
 have f5:=cW nn1 nl n5
 have f6:=cW nn1 gl p1
 have f7:=cW nn1 gl p2
 have f8:=cW nn1 gl p3
 have f9:=cW nn1 gl p4
 have f10:=cW nn1 gl p5
 have Hc:S x1:=by rw [Hb];exact ⟨f0,f1,f2,f3,f4,f5,f6,f7,f8,f9,f10⟩
 have Hi:=mA (HI.out.below nn1)
 have gl1:gr < x1.heap.size:=mF gl nn1.size
 clear k1
 refine Hw _ _ ⟨.inr Hc,?_⟩
 have Ha:=Ha.set (i:=10) (by rw [<- List.contains_iff_mem];kernel_rfl)
 (try simp only [Act.put,zp1,zp2,zp3])
 refine tkEs 10 [11,12,13] (by kernel_rfl) (fun _ _ _ _ _ h=>h) Ha Hc ?_
 iterate 3
  refine tkc (v:=?_) rfl (Or.inl ⟨by rfl,?_⟩) ?_
  rotate_left
  ·(intro wv Hd;rw [Hb] at Hd;obtain ⟨s0,s1,s2,s3,s4,s5,s6,s7,s8,s9,s10⟩:=Hd;go_simp;(try with_reducible rfl))
  (try simp only [Act.put,zp1,zp2,zp3])
 refine tkz (fun Ha=>?_)
 refine alE 14 (by kernel_rfl) (wpOp_step (o:=_) rfl fun KU Hj=>?_)
 go_simp
 refine Hj _ _ ⟨.inl rfl,zAp (by kernel_rfl) ?_ _⟩
 clear Hj Hw Hc Hb Ha d0 n1 n2 n3 n4 n5 p1 p2 p3 p4 p5 f0 f1 f2 f3 f4 f5 f6 f7 f8 f9 f10 dl nl gl nn1
 have Hg:=Hi.out.box
 obtain ⟨b0,b1,b2,b3,b4,b5,b6,b7,b8,b9⟩:=cz10 Hg
 have d0:=cz1 Hi.out.net.box
 have dl:=Hi.out.net.box.lt
 have bl:=Hg.lt
 clear Hg
 obtain ⟨_,_,_,_,_,_,_,er2,_,_,_,_,Hx,_⟩:=Hi.out.net.repAt hr
 have Hk:World.there (x1.drew) gr (r*10) 10:=by cases er2;exact Hx
 clear er2 Hx
 go_wp2_with fail
 obtain ⟨S,Hb⟩:∃ S:World->Prop,S=fun w'=>w'.cell? ⟨gx,0,none⟩=some (.slice (some ⟨gr,0,none⟩) x.replicas.length e0)/\w'.cell? ⟨w.heap.size,0,none⟩=some (.int .i64 next.me)/\w'.cell? ⟨w.heap.size,1,none⟩=some (.int .i64 next.kept.view)/\w'.cell? ⟨w.heap.size,2,none⟩=some (.int .i64 next.kept.normal)/\w'.cell? ⟨w.heap.size,3,none⟩=some (.bool next.kept.calm)/\w'.cell? ⟨w.heap.size,4,none⟩=some (.slice E0 m0 z0)/\w'.cell? ⟨w.heap.size,5,none⟩=some (.int .i64 next.kept.commit)/\w'.cell? ⟨w.heap.size,6,none⟩=some (.slice E1 next.have_.length z1)/\w'.cell? ⟨w.heap.size,7,none⟩=some (.slice E2 next.wants.length z2)/\w'.cell? ⟨w.heap.size,8,none⟩=some (.slice E3 next.gives.length z3)/\w'.cell? ⟨w.heap.size,9,none⟩=some (.slice E4 next.given.length z4):=⟨_,rfl⟩
 have Hc:S x1.drew:=by rw [Hb];exact ⟨d0,b0,b1,b2,b3,b4,b5,b6,b7,b8,b9⟩
 refine zAq S 7 (by kernel_rfl) (fun Ha=>?_)
 change wpAnyE _ _ _ _ _ _ _ _ _ x1.drew
 refine tkEs 10 [0,1,2,3,4,5,6] (by kernel_rfl) (fun _ _ _ _ _ h=>h) Ha Hc ?_
 iterate 7
  refine tkc (v:=?_) rfl (Or.inl ⟨by rfl,?_⟩) ?_
  rotate_left
  ·(intro wv Hd;rw [Hb] at Hd;obtain ⟨s0,s1,s2,s3,s4,s5,s6,s7,s8,s9,s10⟩:=Hd;go_simp;(try with_reducible rfl))
  (try simp only [Act.put,zp1,zp2,zp3])
 refine tkz (fun Ha=>?_)
 refine alE 7 (by kernel_rfl) (wpOp_step (o:=_) rfl fun KU Hj=>?_)
 rw [if_pos (by rfl)]
 refine wp_store_mid 49 (.tmp 34) (.tmp 33) rfl gr (r*10) (rN next E0 m0 z0 E1 z1 E2 z2 E3 z3 E4 z4) rfl rfl Hk (by kernel_rfl) (all_oneCell_toArray (zCo Hi.out.rep)) ?_
 refine Hj _ _ ⟨.inl rfl,zAp (by kernel_rfl) ?_ _⟩
 (try simp only [Act.put,zp1,zp2,zp3])
 clear Hj Hc Hb Ha
 obtain ⟨W2,Ho⟩:=mJ ((x1.drew).setCells gr (r*10) (rL next E0 m0 z0 E1 z1 E2 z2 E3 z3 E4 z4))
 have HP:=mA (show NetW W2 base gx { x with replicas:=x.replicas.set r next } (.slice (some ⟨gr,0,none⟩) x.replicas.length e0) (.slice B1 x.slots.length e1) (.slice B2 x.flying.length e2) (.slice B3 x.clients.length e3) (.slice B4 x.told.length e4)/\Fr base w W2/\IsRow 137 8 80 MsgE W2 0 (.slice A ms.length c) ms/\base<=W2.heap.size from by
  rw [Ho]
  exact (Hi.out.below (mG _ _).drew).put (k:=r) hr)
 change Exit.then _ _ _ _ ((x1.drew).setCells gr (r*10) (rL next E0 m0 z0 E1 z1 E2 z2 E3 z3 E4 z4))
 rw [<- Ho]
 clear Ho b0 b1 b2 b3 b4 b5 b6 b7 b8 b9 d0 dl bl Hk
 go_wp2_with fail
 refine (zNk A c ms W2 base gx { x with replicas:=x.replicas.set r next } _ _ _ _ _ HP.out.1 HP.out.2.2.2 HP.out.2.2.1 Kf.out Ka).mono ?_;rintro en w9 ⟨rfl,Hy,Hz⟩
 have H9:=mA (mB Hy (HP.out.2.1.trans Hz))
 clear Hy Hz
 go_wp2
 go_ret
 exact ⟨zAb (zAd HY.out.2.symm),by rw [HY.out.1];exact H9.out.1,H9.out.2⟩
theorem StlI.slot {W:World} {base gx gb g n c k:Nat} {x:Scu.Net} {rv fv cv tv:Value} {next:Scu.Replica} {E0:Option Addr} {m0 z0:Nat} {E1:Option Addr} {z1:Nat} {E2:Option Addr} {z2:Nat} {E3:Option Addr} {z3:Nat} {E4:Option Addr} {z4:Nat} {ov:Value} {ms:List Scu.Message} {w:World} (h:StlI W base gx gb x rv (.slice (some ⟨g,0,none⟩) n c) fv cv tv next E0 m0 z0 E1 z1 E2 z2 E3 z3 E4 z4 ov ms w) (hk:k < x.slots.length) {u:Value} {l:List Scu.Str} (hu:IsStrs W 0 u l) :
 StlI (W.setCell ⟨g,k,none⟩ u) base gx gb { x with slots:=x.slots.set k l } rv (.slice (some ⟨g,0,none⟩) n c) fv cv tv next E0 m0 z0 E1 z1 E2 z2 E3 z3 E4 z4 ov ms w:=by
 obtain ⟨hP,hF⟩:=h.net.putSlot hk hu
 obtain ⟨_,_,_,e,_,_,_,_,_,cur,hB⟩:=h.net.slotAt hk
 cases e
 have hs:Same [9,3,4,44,49,137] 0 W (W.setCell ⟨g,k,none⟩ u):=Same.set_ hB (mE _) (by decide) k u
 exact ⟨hP,zAc h.box hs (by simp),h.rep.same (hs.mono (by simp) (mC _)),IsMs.keep h.row (hs.mono (by simp) (mC _)),h.fr.trans hF,mD h.le hF.size⟩
theorem zWi (r:Nat) (next:Scu.Replica) (lu hv wv gv nv:Value) (A:Option Addr) (c:Nat) (ms:List Scu.Message) (upto:Int) (w:World) (base gx:Nat) (x:Scu.Net) (rv sv fv cv tv:Value) (hN:NetW w base gx x rv sv fv cv tv) (hb:base<=w.heap.size) (hr:r < x.replicas.length) (hs:r < x.slots.length) (Hu:x.replicas.length=3) (Ha:IsRep w 0 lu hv wv gv nv next) (Hv:IsRow 137 8 80 MsgE w 0 (.slice A ms.length c) ms) (Hw:∀ g,(Value.slice A ms.length c).ownBlock=some g->fv.ownBlock≠some g) (Kx:x.flying.length<=80) (Hx:next.kept=x.replicas[r].kept) (Kj:¬ upto < 0) (y:Scu.Net) (f:Int) (hy:(if (Scu.store (x.slots.getD r []) next.kept upto).2≠0 then (x,(Scu.store (x.slots.getD r []) next.kept upto).2) else if 0<=upto then Scu.crash { x with slots:=x.slots.set r (Scu.store (x.slots.getD r []) next.kept upto).1 } r else ({ x with slots:=x.slots.set r (Scu.store (x.slots.getD r []) next.kept upto).1,replicas:=x.replicas.set r next,flying:=Scu.sendAll x.flying ms },0))=(y,f)) :
 Calls Tryd.prog 65 #[.pointer (some ⟨gx,0,none⟩),.int .i64 r,.agg #[.int .i64 next.me,.int .i64 next.kept.view,.int .i64 next.kept.normal,.bool next.kept.calm,lu,.int .i64 next.kept.commit,hv,wv,gv,nv],.slice A ms.length c,.int .i64 upto] w fun e w'=>e=.returned (.int .i64 f)/\NetE w' base gx y/\Fr base w w':=by
 have Kk:=mA (show decide (next.kept=x.replicas[r].kept)=true by rw [decide_eq_true_eq];exact Hx)
 have HY:=mA hy
 clear Hx hy
 have Kl:decide (upto < 0)=false:=by simpa using Kj
 have Km:0<=upto:=by omega
 have Kn:=mA Hu
 clear Hu
 obtain ⟨B0,e0,B1,e1,B2,e2,B3,e3,B4,e4,rfl,rfl,rfl,rfl,rfl⟩:=hN.forms
 obtain ⟨E0,m0,z0,E1,z1,E2,z2,E3,z3,E4,z4,rfl,rfl,rfl,rfl,rfl⟩:=Ha.forms
 obtain ⟨gr,cr,lu0,Ky,wv0,gv0,nv0,er',Ko,Kz,Hm,Hr,-,curr,Hy⟩:=hN.repAt hr
 obtain ⟨rfl,rfl⟩:B0=some ⟨gr,0,none⟩/\e0=cr:=by cases er';exact ⟨rfl,rfl⟩
 obtain ⟨rk,Hs⟩:=mK (x.replicas[r])
 rw [Hs] at Hr Hm
 obtain ⟨Ak,nk,ck,rfl⟩:=Hm.log.form
 have Hb:=zAa w (.cells (rN next E0 m0 z0 E1 z1 E2 z2 E3 z3 E4 z4) 49)
 have HI:=mA (show StlI (w.alloc (.cells (rN next E0 m0 z0 E1 z1 E2 z2 E3 z3 E4 z4) 49)) base gx w.heap.size x (.slice (some ⟨gr,0,none⟩) x.replicas.length e0) (.slice B1 x.slots.length e1) (.slice B2 x.flying.length e2) (.slice B3 x.clients.length e3) (.slice B4 x.told.length e4) next E0 m0 z0 E1 z1 E2 z2 E3 z3 E4 z4 (.slice A ms.length c) ms w from
  ⟨hN.below Hb,Blk.new _ _ _,Ha.below Hb,IsMs.below Hv Hb,Fr.of Hb hb,mD hb Hb.size⟩)
 have Hf:=mA (World.rangeAt_alloc Hr (.cells (rN next E0 m0 z0 E1 z1 E2 z2 E3 z3 E4 z4) 49))
 have Hz:=mA (Hm.log.below Hb)
 have Va:=mA Hw
 have Kp:=mA Hs
 have nxr:gx≠gr:=zAo hN.box Hy (by decide)
 have nbr:w.heap.size≠gr:=by omega
 have Vb:(r:Int) < (x.replicas.length:Int):=by omega
 have Vc:(r:Int) < (x.slots.length:Int):=by omega
 clear hN Ha Hv er' Hr Hm Hw Hs Hb Hy Ko
 go_enter Tryd.func65,Tryd.ntmps65
 go_upto_region 1 with fail
 obtain ⟨Wd,Ka⟩:=mJ (w.alloc (.cells (rN next E0 m0 z0 E1 z1 E2 z2 E3 z3 E4 z4) 49))
 rw [<- Ka] at HI Hf Hz ⊢
 clear Ka
 have Hc:=HI.out.box
 obtain ⟨-,n1,n2,n3,n4,n5⟩:=cz6 Hc
 have d0:=cz1 HI.out.net.box
 have p1:Wd.cell? ⟨gr,r*10+1,none⟩=some (.int .i64 rk.kept.view):=Hf.out 1 _ rfl
 have p2:Wd.cell? ⟨gr,r*10+2,none⟩=some (.int .i64 rk.kept.normal):=Hf.out 2 _ rfl
 have p3:Wd.cell? ⟨gr,r*10+3,none⟩=some (.bool rk.kept.calm):=Hf.out 3 _ rfl
 have p4:Wd.cell? ⟨gr,r*10+4,none⟩=some (.slice Ak nk ck):=Hf.out 4 _ rfl
 have p5:Wd.cell? ⟨gr,r*10+5,none⟩=some (.int .i64 rk.kept.commit):=Hf.out 5 _ rfl
 have dl:=HI.out.net.box.lt
 have nl:=Hc.lt
 have gl:gr < Wd.heap.size:=by omega
 clear Hc
 go_wp2_with fail
 obtain ⟨S,Hh⟩:∃ S:World->Prop,S=fun w'=>w'.cell? ⟨gx,0,none⟩=some (.slice (some ⟨gr,0,none⟩) x.replicas.length e0)/\w'.cell? ⟨w.heap.size,1,none⟩=some (.int .i64 next.kept.view)/\w'.cell? ⟨w.heap.size,2,none⟩=some (.int .i64 next.kept.normal)/\w'.cell? ⟨w.heap.size,3,none⟩=some (.bool next.kept.calm)/\w'.cell? ⟨w.heap.size,4,none⟩=some (.slice E0 m0 z0)/\w'.cell? ⟨w.heap.size,5,none⟩=some (.int .i64 next.kept.commit)/\w'.cell? ⟨gr,r*10+1,none⟩=some (.int .i64 rk.kept.view)/\w'.cell? ⟨gr,r*10+2,none⟩=some (.int .i64 rk.kept.normal)/\w'.cell? ⟨gr,r*10+3,none⟩=some (.bool rk.kept.calm)/\w'.cell? ⟨gr,r*10+4,none⟩=some (.slice Ak nk ck)/\w'.cell? ⟨gr,r*10+5,none⟩=some (.int .i64 rk.kept.commit):=⟨_,rfl⟩
 have Hi:S Wd.drew:=by rw [Hh];exact ⟨d0,n1,n2,n3,n4,n5,p1,p2,p3,p4,p5⟩
 refine zAq S 14 (by kernel_rfl) (fun Hd=>?_)
 change wpAnyE _ _ _ _ _ _ _ _ _ Wd.drew
 refine tkEs 10 [0,1,2,3,4,5,6,7,8,9] (by kernel_rfl) (fun _ _ _ _ _ h=>h) Hd Hi ?_
 iterate 10
  refine tkc (v:=?_) rfl (Or.inl ⟨by rfl,?_⟩) ?_
  rotate_left
  ·(intro wv Hj;rw [Hh] at Hj;obtain ⟨s0,s1,s2,s3,s4,s5,s6,s7,s8,s9,s10⟩:=Hj;go_simp;(try with_reducible rfl))
  (try simp only [Act.put,zp1,zp2,zp3])
 refine tkz (fun Hd=>?_)
 refine alE 10 (by kernel_rfl) (wpOp_step (o:=_) rfl fun KS Kb=>?_)
 go_simp
 refine (zJs E0 Ak m0 nk z0 ck next.kept rk.kept Wd.drew 0 0 (HI.out.rep.log.below (mG _ _).drew) (Hz.out.below (mG _ _).drew) true (by rw [<- Kp.out];exact Kk.out)).mono ?_;rintro en x1 ⟨rfl,k1⟩
 have nn1:Below Wd.heap.size Wd x1:=(mG _ _).drew.trans k1
 have f0:=cW nn1 dl d0
 have f1:=cW nn1 nl n1
 have f2:=cW nn1 nl n2
 have f3:=cW nn1 nl n3
 have f4:=cW nn1 nl n4
 have f5:=cW nn1 nl n5
 have f6:=cW nn1 gl p1
 have f7:=cW nn1 gl p2
 have f8:=cW nn1 gl p3
 have f9:=cW nn1 gl p4
 have f10:=cW nn1 gl p5
 have Hi:S x1:=by rw [Hh];exact ⟨f0,f1,f2,f3,f4,f5,f6,f7,f8,f9,f10⟩
 have Hg:=mA (HI.out.below nn1)
 have gl1:gr < x1.heap.size:=mF gl nn1.size
 clear k1
 refine Kb _ _ ⟨.inr Hi,?_⟩
 have Hd:=Hd.set (i:=10) (by rw [<- List.contains_iff_mem];kernel_rfl)
 (try simp only [Act.put,zp1,zp2,zp3])
 refine tkEs 10 [11,12,13] (by kernel_rfl) (fun _ _ _ _ _ h=>h) Hd Hi ?_
 iterate 3
  refine tkc (v:=?_) rfl (Or.inl ⟨by rfl,?_⟩) ?_
  rotate_left
  ·(intro wv Hj;rw [Hh] at Hj;obtain ⟨s0,s1,s2,s3,s4,s5,s6,s7,s8,s9,s10⟩:=Hj;go_simp;(try with_reducible rfl))
  (try simp only [Act.put,zp1,zp2,zp3])
 refine tkz (fun Hd=>?_)
 refine alE 14 (by kernel_rfl) (wpOp_step (o:=_) rfl fun KU Kc=>?_)
 go_simp
 refine Kc _ _ ⟨.inl rfl,zAp (by kernel_rfl) ?_ _⟩
 clear Kc Kb Hi Hh Hd d0 n1 n2 n3 n4 n5 p1 p2 p3 p4 p5 f0 f1 f2 f3 f4 f5 f6 f7 f8 f9 f10 dl nl gl nn1
 obtain ⟨gs,cs,u,es,Kq,Kd,hu,Hk,Hn,curs,Ho⟩:=Hg.out.net.slotAt hs
 obtain ⟨rfl,rfl⟩:B1=some ⟨gs,0,none⟩/\e1=cs:=by cases es;exact ⟨rfl,rfl⟩
 obtain ⟨Au,nu,cu,rfl⟩:=hu.form
 have Hc:=Hg.out.box
 obtain ⟨-,n1,n2,n3,n4,n5⟩:=cz6 Hc
 obtain ⟨-,d1⟩:=cz2 Hg.out.net.box
 have dl:=Hg.out.net.box.lt
 have nl:=Hc.lt
 obtain ⟨l',f',Ke⟩:∃ l' f',Scu.store x.slots[r] next.kept upto=(l',f'):=⟨_,_,rfl⟩
 have Ht:=mA Ke
 have Kr:=mA hu
 clear es Hc hu Kq Hn curs Ho Ke
 go_wp2_with fail
 go_region_held3 (fun w'=>w'.cell? ⟨gx,1,none⟩=some (.slice (some ⟨gs,0,none⟩) x.slots.length e1)/\w'.cell? ⟨gs,r,none⟩=some (.slice Au nu cu)/\w'.cell? ⟨w.heap.size,1,none⟩=some (.int .i64 next.kept.view)/\w'.cell? ⟨w.heap.size,2,none⟩=some (.int .i64 next.kept.normal)/\w'.cell? ⟨w.heap.size,3,none⟩=some (.bool next.kept.calm)/\w'.cell? ⟨w.heap.size,4,none⟩=some (.slice E0 m0 z0)/\w'.cell? ⟨w.heap.size,5,none⟩=some (.int .i64 next.kept.commit))
  (first | (go_split_ands;(try dsimp only);(repeat' apply mB) <;> (with_reducible assumption)) | (go_split_ands;(try dsimp only);exact ⟨d1,Hk,n1,n2,n3,n4,n5⟩))
  (first
   | (go_at_call 79;refine (zIc Au nu cu E0 m0 z0 x.slots[r] next.kept upto _ 0 0 (Kr.out.drewN 1) (Hg.out.rep.log.drewN 1) l' f' Ht.out).mono ?_;rintro en x2 ⟨⟨Av,nv,cv,rfl,Kf⟩,k1'⟩
      have nn1:Below x1.heap.size x1 x2:=(below_drewN (mG _ _) 1).trans k1'
      have M1:=mA nn1
      have Ks:=mA Kf
      have y0:=cW nn1 dl d1
      have y1:=cW nn1 Kd Hk
      have y2:=cW nn1 nl n1
      have y3:=cW nn1 nl n2
      have y4:=cW nn1 nl n3
      have y5:=cW nn1 nl n4
      have y6:=cW nn1 nl n5
      clear nn1 k1' Kf))
 rename_i hHeld
 clear hHeld
 have He:=mA (Hg.out.below M1.out)
 have gl2:gr < x2.heap.size:=mF gl1 M1.out.size
 have Kt:gs < x2.heap.size:=mF Kd M1.out.size
 clear d1 n1 n2 n3 n4 n5 dl nl y0 y1 y2 y3 y4 y5 y6 Hk
 by_cases hf0:f'=0
 ·subst hf0
  have Hl:(if 0<=upto then Scu.crash { x with slots:=x.slots.set r l' } r else ({ x with slots:=x.slots.set r l',replicas:=x.replicas.set r next,flying:=Scu.sendAll x.flying ms },0))=(y,f):=by
   have h:=HY.out
   rw [show x.slots.getD r []=x.slots[r] by rw [mI,mH hs];rfl,Ht.out] at h
   dsimp only at h
   rw [if_neg (by simp)] at h
   exact h
  obtain ⟨-,d1⟩:=cz2 He.out.net.box
  have dl:=He.out.net.box.lt
  obtain ⟨_,_,u9,es,_,_,_,Hk,Hn,curs,Ho⟩:=He.out.net.slotAt hs
  cases es
  have nxs:gx≠gs:=zAo He.out.net.box Ho (by decide)
  have Ku:=Hn r
  have Hp:=mA (He.out.slot (k:=r) hs Ks.out)
  have Hq:=mA Hl
  clear Hl Hn Ho
  go_upto_region 9 with fail
  obtain ⟨W3,Kg⟩:=mJ (x2.setCell ⟨gs,r,none⟩ (.slice Av nv cv))
  rw [<- Kg] at Hp ⊢
  clear Kg d1 dl Hk Ku
  have Kv:¬ upto < 0:=by omega
  have Kw:=mA (show Scu.crash { x with slots:=x.slots.set r l' } r=(y,f) by have h:=Hq.out;rw [if_pos Km] at h;exact h)
  go_wp2_with fail
  refine (zHm r W3 base gx { x with slots:=x.slots.set r l' } _ _ _ _ _ Hp.out.net Hp.out.le hr (by rw [List.length_set];exact hs) Kn.out y f Kw.out).mono ?_;rintro en w9 ⟨rfl,Kh,Ki⟩
  have H9:=mA (mB Kh (Hp.out.fr.trans Ki))
  clear Kh Ki
  go_wp2
  go_ret
  exact ⟨rfl,H9.out.1,H9.out.2⟩
 have Vd:(f' != 0)=true:=by simpa using hf0
 have Hl:y=x/\f=f':=by
  have h:=HY.out
  rw [show x.slots.getD r []=x.slots[r] by rw [mI,mH hs];rfl,Ht.out] at h
  dsimp only at h
  rw [if_pos hf0] at h
  exact ⟨(Prod.mk.inj h).1.symm,(Prod.mk.inj h).2.symm⟩
 have Hq:=mA Hl
 clear Hl hf0
 go_wp2
 go_ret
 exact ⟨zAb (zAd Hq.out.2.symm),by rw [Hq.out.1];exact He.out.net.e,He.out.fr⟩
theorem zWj (r:Nat) (next:Scu.Replica) (lu hv wv gv nv:Value) (A:Option Addr) (c:Nat) (ms:List Scu.Message) (upto:Int) (w:World) (base gx:Nat) (x:Scu.Net) (rv sv fv cv tv:Value) (hN:NetW w base gx x rv sv fv cv tv) (hb:base<=w.heap.size) (hr:r < x.replicas.length) (hs:r < x.slots.length) (Kb:x.replicas.length=3) (Hg:IsRep w 0 lu hv wv gv nv next) (Kc:IsRow 137 8 80 MsgE w 0 (.slice A ms.length c) ms) (Kd:∀ g,(Value.slice A ms.length c).ownBlock=some g->fv.ownBlock≠some g) (Ko:x.flying.length<=80) (Ke:next.kept≠x.replicas[r].kept) (y:Scu.Net) (f:Int) (hy:(if (Scu.store (x.slots.getD r []) next.kept upto).2≠0 then (x,(Scu.store (x.slots.getD r []) next.kept upto).2) else if 0<=upto then Scu.crash { x with slots:=x.slots.set r (Scu.store (x.slots.getD r []) next.kept upto).1 } r else ({ x with slots:=x.slots.set r (Scu.store (x.slots.getD r []) next.kept upto).1,replicas:=x.replicas.set r next,flying:=Scu.sendAll x.flying ms },0))=(y,f)) :
 Calls Tryd.prog 65 #[.pointer (some ⟨gx,0,none⟩),.int .i64 r,.agg #[.int .i64 next.me,.int .i64 next.kept.view,.int .i64 next.kept.normal,.bool next.kept.calm,lu,.int .i64 next.kept.commit,hv,wv,gv,nv],.slice A ms.length c,.int .i64 upto] w fun e w'=>e=.returned (.int .i64 f)/\NetE w' base gx y/\Fr base w w':=by
 have Kp:=mA (show decide (next.kept=x.replicas[r].kept)=false by rw [decide_eq_false_iff_not];exact Ke)
 have HY:=mA hy
 clear Ke hy
 have Kq:=mA Kb
 clear Kb
 obtain ⟨B0,e0,B1,e1,B2,e2,B3,e3,B4,e4,rfl,rfl,rfl,rfl,rfl⟩:=hN.forms
 obtain ⟨E0,m0,z0,E1,z1,E2,z2,E3,z3,E4,z4,rfl,rfl,rfl,rfl,rfl⟩:=Hg.forms
 obtain ⟨gr,cr,lu0,Va,wv0,gv0,nv0,er',Kr,Vb,Hs,Hw,-,curr,Kf⟩:=hN.repAt hr
 obtain ⟨rfl,rfl⟩:B0=some ⟨gr,0,none⟩/\e0=cr:=by cases er';exact ⟨rfl,rfl⟩
 obtain ⟨rk,Hx⟩:=mK (x.replicas[r])
 rw [Hx] at Hw Hs
 obtain ⟨Ak,nk,ck,rfl⟩:=Hs.log.form
 have Hh:=zAa w (.cells (rN next E0 m0 z0 E1 z1 E2 z2 E3 z3 E4 z4) 49)
 have HI:=mA (show StlI (w.alloc (.cells (rN next E0 m0 z0 E1 z1 E2 z2 E3 z3 E4 z4) 49)) base gx w.heap.size x (.slice (some ⟨gr,0,none⟩) x.replicas.length e0) (.slice B1 x.slots.length e1) (.slice B2 x.flying.length e2) (.slice B3 x.clients.length e3) (.slice B4 x.told.length e4) next E0 m0 z0 E1 z1 E2 z2 E3 z3 E4 z4 (.slice A ms.length c) ms w from
  ⟨hN.below Hh,Blk.new _ _ _,Hg.below Hh,IsMs.below Kc Hh,Fr.of Hh hb,mD hb Hh.size⟩)
 have Hj:=mA (World.rangeAt_alloc Hw (.cells (rN next E0 m0 z0 E1 z1 E2 z2 E3 z3 E4 z4) 49))
 have Kg:=mA (Hs.log.below Hh)
 have Ks:=mA Kd
 have Kt:=mA Hx
 have nxr:gx≠gr:=zAo hN.box Kf (by decide)
 have nbr:w.heap.size≠gr:=by omega
 have Vc:(r:Int) < (x.replicas.length:Int):=by omega
 have Vd:(r:Int) < (x.slots.length:Int):=by omega
 clear hN Hg Kc er' Hw Hs Kd Hx Hh Kf Kr
 go_enter Tryd.func65,Tryd.ntmps65
 go_upto_region 1 with fail
 obtain ⟨Wd,Kh⟩:=mJ (w.alloc (.cells (rN next E0 m0 z0 E1 z1 E2 z2 E3 z3 E4 z4) 49))
 rw [<- Kh] at HI Hj Kg ⊢
 clear Kh
 have Hb:=HI.out.box
 obtain ⟨-,n1,n2,n3,n4,n5⟩:=cz6 Hb
 have d0:=cz1 HI.out.net.box
 have p1:Wd.cell? ⟨gr,r*10+1,none⟩=some (.int .i64 rk.kept.view):=Hj.out 1 _ rfl
 have p2:Wd.cell? ⟨gr,r*10+2,none⟩=some (.int .i64 rk.kept.normal):=Hj.out 2 _ rfl
 have p3:Wd.cell? ⟨gr,r*10+3,none⟩=some (.bool rk.kept.calm):=Hj.out 3 _ rfl
 have p4:Wd.cell? ⟨gr,r*10+4,none⟩=some (.slice Ak nk ck):=Hj.out 4 _ rfl
 have p5:Wd.cell? ⟨gr,r*10+5,none⟩=some (.int .i64 rk.kept.commit):=Hj.out 5 _ rfl
 have dl:=HI.out.net.box.lt
 have nl:=Hb.lt
 have gl:gr < Wd.heap.size:=by omega
 clear Hb
 go_wp2_with fail
 obtain ⟨S,He⟩:∃ S:World->Prop,S=fun w'=>w'.cell? ⟨gx,0,none⟩=some (.slice (some ⟨gr,0,none⟩) x.replicas.length e0)/\w'.cell? ⟨w.heap.size,1,none⟩=some (.int .i64 next.kept.view)/\w'.cell? ⟨w.heap.size,2,none⟩=some (.int .i64 next.kept.normal)/\w'.cell? ⟨w.heap.size,3,none⟩=some (.bool next.kept.calm)/\w'.cell? ⟨w.heap.size,4,none⟩=some (.slice E0 m0 z0)/\w'.cell? ⟨w.heap.size,5,none⟩=some (.int .i64 next.kept.commit)/\w'.cell? ⟨gr,r*10+1,none⟩=some (.int .i64 rk.kept.view)/\w'.cell? ⟨gr,r*10+2,none⟩=some (.int .i64 rk.kept.normal)/\w'.cell? ⟨gr,r*10+3,none⟩=some (.bool rk.kept.calm)/\w'.cell? ⟨gr,r*10+4,none⟩=some (.slice Ak nk ck)/\w'.cell? ⟨gr,r*10+5,none⟩=some (.int .i64 rk.kept.commit):=⟨_,rfl⟩
 have Hc:S Wd.drew:=by rw [He];exact ⟨d0,n1,n2,n3,n4,n5,p1,p2,p3,p4,p5⟩
 refine zAq S 14 (by kernel_rfl) (fun Ha=>?_)
 change wpAnyE _ _ _ _ _ _ _ _ _ Wd.drew
 refine tkEs 10 [0,1,2,3,4,5,6,7,8,9] (by kernel_rfl) (fun _ _ _ _ _ h=>h) Ha Hc ?_
 iterate 10
  refine tkc (v:=?_) rfl (Or.inl ⟨by rfl,?_⟩) ?_
  rotate_left
  ·(intro wv Hf;rw [He] at Hf;obtain ⟨s0,s1,s2,s3,s4,s5,s6,s7,s8,s9,s10⟩:=Hf;go_simp;(try with_reducible rfl))
  (try simp only [Act.put,zp1,zp2,zp3])
 refine tkz (fun Ha=>?_)
 refine alE 10 (by kernel_rfl) (wpOp_step (o:=_) rfl fun KS Ki=>?_)
 go_simp
 refine (zJs E0 Ak m0 nk z0 ck next.kept rk.kept Wd.drew 0 0 (HI.out.rep.log.below (mG _ _).drew) (Kg.out.below (mG _ _).drew) false (by rw [<- Kt.out];exact Kp.out)).mono ?_;rintro en x1 ⟨rfl,k1⟩
 have nn1:Below Wd.heap.size Wd x1:=(mG _ _).drew.trans k1
 have f0:=cW nn1 dl d0
 have f1:=cW nn1 nl n1
 have f2:=cW nn1 nl n2
 have f3:=cW nn1 nl n3
 have f4:=cW nn1 nl n4
 have f5:=cW nn1 nl n5
 have f6:=cW nn1 gl p1
 have f7:=cW nn1 gl p2
 have f8:=cW nn1 gl p3
 have f9:=cW nn1 gl p4
 have f10:=cW nn1 gl p5
 have Hc:S x1:=by rw [He];exact ⟨f0,f1,f2,f3,f4,f5,f6,f7,f8,f9,f10⟩
 have Hk:=mA (HI.out.below nn1)
 have gl1:gr < x1.heap.size:=mF gl nn1.size
 clear k1
 refine Ki _ _ ⟨.inr Hc,?_⟩
 have Ha:=Ha.set (i:=10) (by rw [<- List.contains_iff_mem];kernel_rfl)
 (try simp only [Act.put,zp1,zp2,zp3])
 refine tkE 11 10 (v:=?_) rfl (by kernel_rfl) (fun _ _ _ h=>h) (Or.inl ⟨by rfl,?_⟩) Ha Hc (fun Ha=>?_)
 rotate_left
 ·(intro wv Hf;rw [He] at Hf;obtain ⟨s0,s1,s2,s3,s4,s5,s6,s7,s8,s9,s10⟩:=Hf;go_simp;(try with_reducible rfl))
 (try simp only [Act.put,zp1,zp2,zp3])
 refine zIb (i:=12) 10 (v:=undef) rfl (by kernel_rfl) (by kernel_rfl) (by kernel_rfl) (by kernel_rfl) (fun _ _ _ h=>h) (Or.inr ⟨by rfl,rfl⟩) Ha Hc (fun Ha=>?_)
 (try simp only [Act.put,zp1,zp2,zp3])
 refine zIb (i:=13) 10 (v:=undef) rfl (by kernel_rfl) (by kernel_rfl) (by kernel_rfl) (by kernel_rfl) (fun _ _ _ h=>h) (Or.inr ⟨by rfl,rfl⟩) Ha Hc (fun Ha=>?_)
 (try simp only [Act.put,zp1,zp2,zp3])
 refine alE 14 (by kernel_rfl) (wpOp_step (o:=_) rfl fun KU Hl=>?_)
 go_simp
 refine Hl _ _ ⟨.inl rfl,zAp (by kernel_rfl) ?_ _⟩
 clear Hl Ki Hc He Ha d0 n1 n2 n3 n4 n5 p1 p2 p3 p4 p5 f0 f1 f2 f3 f4 f5 f6 f7 f8 f9 f10 dl nl gl nn1
 obtain ⟨gs,cs,u,es,Ku,Kj,hu,Hm,Ht,curs,Hu⟩:=Hk.out.net.slotAt hs
 obtain ⟨rfl,rfl⟩:B1=some ⟨gs,0,none⟩/\e1=cs:=by cases es;exact ⟨rfl,rfl⟩
 obtain ⟨Au,nu,cu,rfl⟩:=hu.form
 have Hb:=Hk.out.box
 obtain ⟨-,n1,n2,n3,n4,n5⟩:=cz6 Hb
 obtain ⟨-,d1⟩:=cz2 Hk.out.net.box
 have dl:=Hk.out.net.box.lt
 have nl:=Hb.lt
 obtain ⟨l',f',Kk⟩:∃ l' f',Scu.store x.slots[r] next.kept upto=(l',f'):=⟨_,_,rfl⟩
 have Hy:=mA Kk
 have Kv:=mA hu
 clear es Hb hu Ku Ht curs Hu Kk
 go_wp2_with fail
 go_region_held3 (fun w'=>w'.cell? ⟨gx,1,none⟩=some (.slice (some ⟨gs,0,none⟩) x.slots.length e1)/\w'.cell? ⟨gs,r,none⟩=some (.slice Au nu cu)/\w'.cell? ⟨w.heap.size,1,none⟩=some (.int .i64 next.kept.view)/\w'.cell? ⟨w.heap.size,2,none⟩=some (.int .i64 next.kept.normal)/\w'.cell? ⟨w.heap.size,3,none⟩=some (.bool next.kept.calm)/\w'.cell? ⟨w.heap.size,4,none⟩=some (.slice E0 m0 z0)/\w'.cell? ⟨w.heap.size,5,none⟩=some (.int .i64 next.kept.commit))
  (first | (go_split_ands;(try dsimp only);(repeat' apply mB) <;> (with_reducible assumption)) | (go_split_ands;(try dsimp only);exact ⟨d1,Hm,n1,n2,n3,n4,n5⟩))
  (first
   | (go_at_call 79;refine (zIc Au nu cu E0 m0 z0 x.slots[r] next.kept upto _ 0 0 (Kv.out.drewN 1) (Hk.out.rep.log.drewN 1) l' f' Hy.out).mono ?_;rintro en x2 ⟨⟨Av,nv,cv,rfl,Kl⟩,k1'⟩
      have nn1:Below x1.heap.size x1 x2:=(below_drewN (mG _ _) 1).trans k1'
      have M1:=mA nn1
      have Kw:=mA Kl
      have y0:=cW nn1 dl d1
      have y1:=cW nn1 Kj Hm
      have y2:=cW nn1 nl n1
      have y3:=cW nn1 nl n2
      have y4:=cW nn1 nl n3
      have y5:=cW nn1 nl n4
      have y6:=cW nn1 nl n5
      clear nn1 k1' Kl))
 rename_i hHeld
 clear hHeld
 have Hi:=mA (Hk.out.below M1.out)
 have gl2:gr < x2.heap.size:=mF gl1 M1.out.size
 have Kx:gs < x2.heap.size:=mF Kj M1.out.size
 clear d1 n1 n2 n3 n4 n5 dl nl y0 y1 y2 y3 y4 y5 y6 Hm
 by_cases hf0:f'=0
 ·subst hf0
  have Hn:(if 0<=upto then Scu.crash { x with slots:=x.slots.set r l' } r else ({ x with slots:=x.slots.set r l',replicas:=x.replicas.set r next,flying:=Scu.sendAll x.flying ms },0))=(y,f):=by
   have h:=HY.out
   rw [show x.slots.getD r []=x.slots[r] by rw [mI,mH hs];rfl,Hy.out] at h
   dsimp only at h
   rw [if_neg (by simp)] at h
   exact h
  obtain ⟨-,d1⟩:=cz2 Hi.out.net.box
  have dl:=Hi.out.net.box.lt
  obtain ⟨_,_,u9,es,_,_,_,Hm,Ht,curs,Hu⟩:=Hi.out.net.slotAt hs
  cases es
  have nxs:gx≠gs:=zAo Hi.out.net.box Hu (by decide)
  have Ky:=Ht r
  have Hd:=mA (Hi.out.slot (k:=r) hs Kw.out)
  have Ho:=mA Hn
  clear Hn Ht Hu
  go_upto_region 9 with fail
  obtain ⟨W3,Km⟩:=mJ (x2.setCell ⟨gs,r,none⟩ (.slice Av nv cv))
  rw [<- Km] at Hd ⊢
  clear Km d1 dl Hm Ky
  by_cases Hv:0<=upto
  ·have Hz:¬ upto < 0:=by omega
   have Kz:=mA (show Scu.crash { x with slots:=x.slots.set r l' } r=(y,f) by have h:=Ho.out;rw [if_pos Hv] at h;exact h)
   go_wp2_with fail
   refine (zHm r W3 base gx { x with slots:=x.slots.set r l' } _ _ _ _ _ Hd.out.net Hd.out.le hr (by rw [List.length_set];exact hs) Kq.out y f Kz.out).mono ?_;rintro en w9 ⟨rfl,Hp,Hq⟩
   have H9:=mA (mB Hp (Hd.out.fr.trans Hq))
   clear Hp Hq
   go_wp2
   go_ret
   exact ⟨rfl,H9.out.1,H9.out.2⟩
  have Hz:¬ 0<=upto:=Hv
  have HY:=mA (show y = { x with slots:=x.slots.set r l',replicas:=x.replicas.set r next,flying:=Scu.sendAll x.flying ms }/\f=0 by
   have h:=Ho.out
   rw [if_neg Hv] at h
   exact ⟨(Prod.mk.inj h).1.symm,(Prod.mk.inj h).2.symm⟩)
  clear Hv
  have Hb:=Hd.out.box
  obtain ⟨b0,b1,b2,b3,b4,b5,b6,b7,b8,b9⟩:=cz10 Hb
  have d0:=cz1 Hd.out.net.box
  have dl:=Hd.out.net.box.lt
  have bl:=Hb.lt
  clear Hb
  obtain ⟨_,_,_,_,_,_,_,er2,_,_,_,_,Kn,_⟩:=Hd.out.net.repAt hr
  have Hr:World.there (W3.drew) gr (r*10) 10:=by cases er2;exact Kn
  clear er2 Kn
  go_wp2_with fail
  obtain ⟨S,He⟩:∃ S:World->Prop,S=fun w'=>w'.cell? ⟨gx,0,none⟩=some (.slice (some ⟨gr,0,none⟩) x.replicas.length e0)/\w'.cell? ⟨w.heap.size,0,none⟩=some (.int .i64 next.me)/\w'.cell? ⟨w.heap.size,1,none⟩=some (.int .i64 next.kept.view)/\w'.cell? ⟨w.heap.size,2,none⟩=some (.int .i64 next.kept.normal)/\w'.cell? ⟨w.heap.size,3,none⟩=some (.bool next.kept.calm)/\w'.cell? ⟨w.heap.size,4,none⟩=some (.slice E0 m0 z0)/\w'.cell? ⟨w.heap.size,5,none⟩=some (.int .i64 next.kept.commit)/\w'.cell? ⟨w.heap.size,6,none⟩=some (.slice E1 next.have_.length z1)/\w'.cell? ⟨w.heap.size,7,none⟩=some (.slice E2 next.wants.length z2)/\w'.cell? ⟨w.heap.size,8,none⟩=some (.slice E3 next.gives.length z3)/\w'.cell? ⟨w.heap.size,9,none⟩=some (.slice E4 next.given.length z4):=⟨_,rfl⟩
  have Hc:S W3.drew:=by rw [He];exact ⟨d0,b0,b1,b2,b3,b4,b5,b6,b7,b8,b9⟩
  refine zAq S 7 (by kernel_rfl) (fun Ha=>?_)
  change wpAnyE _ _ _ _ _ _ _ _ _ W3.drew
  refine tkEs 10 [0,1,2,3,4,5,6] (by kernel_rfl) (fun _ _ _ _ _ h=>h) Ha Hc ?_
  iterate 7
   refine tkc (v:=?_) rfl (Or.inl ⟨by rfl,?_⟩) ?_
   rotate_left
   ·(intro wv Hf;rw [He] at Hf;obtain ⟨s0,s1,s2,s3,s4,s5,s6,s7,s8,s9,s10⟩:=Hf;go_simp;(try with_reducible rfl))
   (try simp only [Act.put,zp1,zp2,zp3])
  refine tkz (fun Ha=>?_)
  refine alE 7 (by kernel_rfl) (wpOp_step (o:=_) rfl fun KU Hl=>?_)
  rw [if_pos (by rfl)]
  refine wp_store_mid 49 (.tmp 73) (.tmp 72) rfl gr (r*10) (rN next E0 m0 z0 E1 z1 E2 z2 E3 z3 E4 z4) rfl rfl Hr (by kernel_rfl) (all_oneCell_toArray (zCo Hd.out.rep)) ?_
  refine Hl _ _ ⟨.inl rfl,zAp (by kernel_rfl) ?_ _⟩
  (try simp only [Act.put,zp1,zp2,zp3])
  clear Hl Hc He Ha
  obtain ⟨W2,Ka⟩:=mJ ((W3.drew).setCells gr (r*10) (rL next E0 m0 z0 E1 z1 E2 z2 E3 z3 E4 z4))
  have HP:=mA (show NetW W2 base gx { { x with slots:=x.slots.set r l' } with replicas:={ x with slots:=x.slots.set r l' }.replicas.set r next } (.slice (some ⟨gr,0,none⟩) x.replicas.length e0) (.slice (some ⟨gs,0,none⟩) x.slots.length e1) (.slice B2 x.flying.length e2) (.slice B3 x.clients.length e3) (.slice B4 x.told.length e4)/\Fr base w W2/\IsRow 137 8 80 MsgE W2 0 (.slice A ms.length c) ms/\base<=W2.heap.size from by
   rw [Ka]
   exact (Hd.out.below (mG _ _).drew).put (k:=r) hr)
  change Exit.then _ _ _ _ ((W3.drew).setCells gr (r*10) (rL next E0 m0 z0 E1 z1 E2 z2 E3 z3 E4 z4))
  rw [<- Ka]
  clear Ka b0 b1 b2 b3 b4 b5 b6 b7 b8 b9 d0 dl bl Hr
  go_wp2_with fail
  refine (zNk A c ms W2 base gx { { x with slots:=x.slots.set r l' } with replicas:={ x with slots:=x.slots.set r l' }.replicas.set r next } _ _ _ _ _ HP.out.1 HP.out.2.2.2 HP.out.2.2.1 Ks.out Ko).mono ?_;rintro en w9 ⟨rfl,Hp,Hq⟩
  have H9:=mA (mB Hp (HP.out.2.1.trans Hq))
  clear Hp Hq
  go_wp2
  go_ret
  exact ⟨zAb (zAd HY.out.2.symm),by rw [HY.out.1];exact H9.out.1,H9.out.2⟩
 have Ve:(f' != 0)=true:=by simpa using hf0
 have Hn:y=x/\f=f':=by
  have h:=HY.out
  rw [show x.slots.getD r []=x.slots[r] by rw [mI,mH hs];rfl,Hy.out] at h
  dsimp only at h
  rw [if_pos hf0] at h
  exact ⟨(Prod.mk.inj h).1.symm,(Prod.mk.inj h).2.symm⟩
 have Ho:=mA Hn
 clear Hn hf0
 go_wp2
 go_ret
 exact ⟨zAb (zAd Ho.out.2.symm),by rw [Ho.out.1];exact Hi.out.net.e,Hi.out.fr⟩
theorem zDr (r:Nat) (next:Scu.Replica) (lu hv wv gv nv:Value) (A:Option Addr) (c:Nat) (ms:List Scu.Message) (upto:Int) (w:World) (base gx:Nat) (x:Scu.Net) (rv sv fv cv tv:Value) (hN:NetW w base gx x rv sv fv cv tv) (hb:base<=w.heap.size) (hr:r < x.replicas.length) (hs:r < x.slots.length) (Hb:x.replicas.length=3) (Ha:IsRep w 0 lu hv wv gv nv next) (Hc:IsRow 137 8 80 MsgE w 0 (.slice A ms.length c) ms) (Hd:∀ g,(Value.slice A ms.length c).ownBlock=some g->fv.ownBlock≠some g) (He:x.flying.length<=80) (y:Scu.Net) (f:Int) (hy:Scu.settle x r next ms upto=(y,f)) :
 Calls Tryd.prog 65 #[.pointer (some ⟨gx,0,none⟩),.int .i64 r,.agg #[.int .i64 next.me,.int .i64 next.kept.view,.int .i64 next.kept.normal,.bool next.kept.calm,lu,.int .i64 next.kept.commit,hv,wv,gv,nv],.slice A ms.length c,.int .i64 upto] w fun e w'=>e=.returned (.int .i64 f)/\NetE w' base gx y/\Fr base w w':=by
 have hg:x.replicas.getD r Scu.replica0=x.replicas[r]:=by rw [mI,mH hr];rfl
 unfold Scu.settle at hy
 rw [hg] at hy
 by_cases h:next.kept=x.replicas[r].kept
 ·by_cases hu:upto < 0
  ·rw [if_pos ⟨h,hu⟩] at hy
   exact zWh r next lu hv wv gv nv A c ms upto w base gx x rv sv fv cv tv hN hb hr hs Hb Ha Hc Hd He h hu y f ⟨(Prod.mk.inj hy).1.symm,(Prod.mk.inj hy).2.symm⟩
  rw [if_neg (fun hh=>hu hh.2)] at hy
  exact zWi r next lu hv wv gv nv A c ms upto w base gx x rv sv fv cv tv hN hb hr hs Hb Ha Hc Hd He h hu y f hy
 rw [if_neg (fun hh=>h hh.1)] at hy
 exact zWj r next lu hv wv gv nv A c ms upto w base gx x rv sv fv cv tv hN hb hr hs Hb Ha Hc Hd He h y f hy
theorem zQb {w w':World} {rr:Scu.Replica} {ms:List Scu.Message} {f:Int} {e:Ending} (h:TellN w.heap.size w' rr ms f e) (hb:Below w.heap.size w w'):(∃ E0 m0 z0 E1 z1 E2 z2 E3 z3 E4 z4 Ao co,e=.returned (.tuple #[.agg #[.int .i64 rr.me,.int .i64 rr.kept.view,.int .i64 rr.kept.normal,.bool rr.kept.calm,.slice E0 m0 z0,.int .i64 rr.kept.commit,.slice E1 rr.have_.length z1,.slice E2 rr.wants.length z2,.slice E3 rr.gives.length z3,.slice E4 rr.given.length z4],.slice Ao ms.length co,.int .i64 f])/\IsRep w' 0 (.slice E0 m0 z0) (.slice E1 rr.have_.length z1) (.slice E2 rr.wants.length z2) (.slice E3 rr.gives.length z3) (.slice E4 rr.given.length z4) rr/\IsRow 137 8 80 MsgE w' 0 (.slice Ao ms.length co) ms/\∀ g,(Value.slice Ao ms.length co).ownBlock=some g->w.heap.size<=g)/\Below w.heap.size w w':=by
 obtain ⟨lu,hv,wv,gv,nv,ov,rfl,h1,h2,h3⟩:=h
 obtain ⟨E0,m0,z0,E1,z1,E2,z2,E3,z3,E4,z4,rfl,rfl,rfl,rfl,rfl⟩:=h1.forms
 obtain ⟨A,c,_,rfl,_⟩:=h2.ex
 exact ⟨⟨_,_,_,_,_,_,_,_,_,_,_,_,_,rfl,h1,h2,h3⟩,hb⟩
theorem zXo (lv hv wv gv nv:Value) (r:Scu.Replica) (w:World) (B:Nat) (hr:IsRep w B lv hv wv gv nv r) (rr:Scu.Replica) (ms:List Scu.Message) (f:Int) (h:Scu.tick r=(rr,ms,f)) :
 Calls Tryd.prog 67 #[.agg #[.int .i64 r.me,.int .i64 r.kept.view,.int .i64 r.kept.normal,.bool r.kept.calm,lv,.int .i64 r.kept.commit,hv,wv,gv,nv]] w fun e w'=>(∃ E0 m0 z0 E1 z1 E2 z2 E3 z3 E4 z4 Ao co,e=.returned (.tuple #[.agg #[.int .i64 rr.me,.int .i64 rr.kept.view,.int .i64 rr.kept.normal,.bool rr.kept.calm,.slice E0 m0 z0,.int .i64 rr.kept.commit,.slice E1 rr.have_.length z1,.slice E2 rr.wants.length z2,.slice E3 rr.gives.length z3,.slice E4 rr.given.length z4],.slice Ao ms.length co,.int .i64 f])/\IsRep w' 0 (.slice E0 m0 z0) (.slice E1 rr.have_.length z1) (.slice E2 rr.wants.length z2) (.slice E3 rr.gives.length z3) (.slice E4 rr.given.length z4) rr/\IsRow 137 8 80 MsgE w' 0 (.slice Ao ms.length co) ms/\∀ g,(Value.slice Ao ms.length co).ownBlock=some g->w.heap.size<=g)/\Below w.heap.size w w':=by
 have:=yAt lv hv wv gv nv r w B hr
 rw [h] at this
 exact this.mono fun e w' ⟨h1,h2⟩=>zQb h1 h2
theorem zTl (lv hv wv gv nv:Value) (r:Scu.Replica) (w:World) (B:Nat) (hr:IsRep w B lv hv wv gv nv r) (rr:Scu.Replica) (ms:List Scu.Message) (f:Int) (h:Scu.alarm r=(rr,ms,f)) :
 Calls Tryd.prog 68 #[.agg #[.int .i64 r.me,.int .i64 r.kept.view,.int .i64 r.kept.normal,.bool r.kept.calm,lv,.int .i64 r.kept.commit,hv,wv,gv,nv]] w fun e w'=>(∃ E0 m0 z0 E1 z1 E2 z2 E3 z3 E4 z4 Ao co,e=.returned (.tuple #[.agg #[.int .i64 rr.me,.int .i64 rr.kept.view,.int .i64 rr.kept.normal,.bool rr.kept.calm,.slice E0 m0 z0,.int .i64 rr.kept.commit,.slice E1 rr.have_.length z1,.slice E2 rr.wants.length z2,.slice E3 rr.gives.length z3,.slice E4 rr.given.length z4],.slice Ao ms.length co,.int .i64 f])/\IsRep w' 0 (.slice E0 m0 z0) (.slice E1 rr.have_.length z1) (.slice E2 rr.wants.length z2) (.slice E3 rr.gives.length z3) (.slice E4 rr.given.length z4) rr/\IsRow 137 8 80 MsgE w' 0 (.slice Ao ms.length co) ms/\∀ g,(Value.slice Ao ms.length co).ownBlock=some g->w.heap.size<=g)/\Below w.heap.size w w':=by
 have:=zYu lv hv wv gv nv r w B hr
 rw [h] at this
 exact this.mono fun e w' ⟨h1,h2⟩=>zQb h1 h2
theorem zXp (lv hv wv gv nv:Value) (r:Scu.Replica) (s:Scu.Str) (hs:s.size<=R47) (w:World) (B:Nat) (hr:IsRep w B lv hv wv gv nv r) (rr:Scu.Replica) (ms:List Scu.Message) (f:Int) (h:Scu.take r s=(rr,ms,f)) :
 Calls Tryd.prog 64 #[.agg #[.int .i64 r.me,.int .i64 r.kept.view,.int .i64 r.kept.normal,.bool r.kept.calm,lv,.int .i64 r.kept.commit,hv,wv,gv,nv],.string s] w fun e w'=>(∃ E0 m0 z0 E1 z1 E2 z2 E3 z3 E4 z4 Ao co,e=.returned (.tuple #[.agg #[.int .i64 rr.me,.int .i64 rr.kept.view,.int .i64 rr.kept.normal,.bool rr.kept.calm,.slice E0 m0 z0,.int .i64 rr.kept.commit,.slice E1 rr.have_.length z1,.slice E2 rr.wants.length z2,.slice E3 rr.gives.length z3,.slice E4 rr.given.length z4],.slice Ao ms.length co,.int .i64 f])/\IsRep w' 0 (.slice E0 m0 z0) (.slice E1 rr.have_.length z1) (.slice E2 rr.wants.length z2) (.slice E3 rr.gives.length z3) (.slice E4 rr.given.length z4) rr/\IsRow 137 8 80 MsgE w' 0 (.slice Ao ms.length co) ms/\∀ g,(Value.slice Ao ms.length co).ownBlock=some g->w.heap.size<=g)/\Below w.heap.size w w':=by
 have:=yBd lv hv wv gv nv r s hs w B hr
 rw [h] at this
 exact this.mono fun e w' ⟨h1,h2⟩=>zQb h1 h2
theorem zQc (lv hv wv gv nv xv:Value) (r:Scu.Replica) (m:Scu.Message) (w:World) (B:Nat) (hr:IsRep w B lv hv wv gv nv r) (hx:IsStrs w B xv m.log) (rr:Scu.Replica) (ms:List Scu.Message) (f:Int) (h:Scu.hear r m=(rr,ms,f)) :
 Calls Tryd.prog 70 #[.agg #[.int .i64 r.me,.int .i64 r.kept.view,.int .i64 r.kept.normal,.bool r.kept.calm,lv,.int .i64 r.kept.commit,hv,wv,gv,nv],.agg #[.int .i64 m.kind,.int .i64 m.from_,.int .i64 m.tq,.int .i64 m.view,.int .i64 m.normal,.int .i64 m.commit,.int .i64 m.n,xv]] w fun e w'=>(∃ E0 m0 z0 E1 z1 E2 z2 E3 z3 E4 z4 Ao co,e=.returned (.tuple #[.agg #[.int .i64 rr.me,.int .i64 rr.kept.view,.int .i64 rr.kept.normal,.bool rr.kept.calm,.slice E0 m0 z0,.int .i64 rr.kept.commit,.slice E1 rr.have_.length z1,.slice E2 rr.wants.length z2,.slice E3 rr.gives.length z3,.slice E4 rr.given.length z4],.slice Ao ms.length co,.int .i64 f])/\IsRep w' 0 (.slice E0 m0 z0) (.slice E1 rr.have_.length z1) (.slice E2 rr.wants.length z2) (.slice E3 rr.gives.length z3) (.slice E4 rr.given.length z4) rr/\IsRow 137 8 80 MsgE w' 0 (.slice Ao ms.length co) ms/\∀ g,(Value.slice Ao ms.length co).ownBlock=some g->w.heap.size<=g)/\Below w.heap.size w w':=by
 have:=yBc lv hv wv gv nv xv r m w B hr hx
 rw [h] at this
 exact this.mono fun e w' ⟨h1,h2⟩=>zQb h1 h2
theorem zXq {P:Program} {ops:Array Oper} {Q:Exit->Act->World->Prop} {md:Region.Mode} {S:World->Prop} {i:Nat} {oi:Oper} {v:Value} {fuel:Nat} {listed:Array Bool} {a:Act} {w:World} (hi:ops.toList[i]? = some oi)
 (hs:Region.noSelect ops=true) (hf:Region.free md ops listed i=true) (hr:(Region.ready md ops listed).contains i=true)
 (hQ:∀ c a w,Q (.panic c) (a.put oi.dst v) w->Q (.panic c) a w) (hy:YieldsIf P ops S oi v a) (hS:S w)
 (h:wpAnyH P md ops Q S fuel (listed.setIfInBounds i true) (a.put oi.dst v) w):wpAnyH P md ops Q S (fuel+1) listed a w :=
 wpAnyH_take (by rw [<- Array.getElem?_toList];exact hi) hs hf hr hQ hy hS h
theorem zAs {w:World} {g n:Nat} {t:TypeId} {cs:Array Value} (h:Blk w g t cs) (hn:cs.size=n:=by rfl):w.there g 0 n:=fun j hj=>by
 rw [Nat.zero_add,h.cell]
 exact ⟨by simp [hn,hj],h.frozen j⟩
theorem zCe {Wd x1 X:World} {gb:Nat} {rr:Scu.Replica} {ms:List Scu.Message} {E0:Option Addr} {m0 z0:Nat} {E1:Option Addr} {z1:Nat} {E2:Option Addr} {z2:Nat} {E3:Option Addr} {z3:Nat} {E4:Option Addr} {z4:Nat} {ov:Value} {b0 b1 b2 b3 b4 b5 b6 b7 b8 b9:Value}
 (h1:IsRep x1 0 (.slice E0 m0 z0) (.slice E1 rr.have_.length z1) (.slice E2 rr.wants.length z2) (.slice E3 rr.gives.length z3) (.slice E4 rr.given.length z4) rr) (h2:IsRow 137 8 80 MsgE x1 0 ov ms)
 (hX:Below Wd.heap.size Wd X) (hB:Blk X gb 49 #[b0,b1,b2,b3,b4,b5,b6,b7,b8,b9]) (hg:Wd.heap.size<=gb) (hx:Below x1.heap.size x1 X) :
 Below Wd.heap.size Wd (X.setCells gb 0 [.int .i64 rr.me,.int .i64 rr.kept.view,.int .i64 rr.kept.normal,.bool rr.kept.calm,.slice E0 m0 z0,.int .i64 rr.kept.commit,.slice E1 rr.have_.length z1,.slice E2 rr.wants.length z2,.slice E3 rr.gives.length z3,.slice E4 rr.given.length z4])/\Blk (X.setCells gb 0 [.int .i64 rr.me,.int .i64 rr.kept.view,.int .i64 rr.kept.normal,.bool rr.kept.calm,.slice E0 m0 z0,.int .i64 rr.kept.commit,.slice E1 rr.have_.length z1,.slice E2 rr.wants.length z2,.slice E3 rr.gives.length z3,.slice E4 rr.given.length z4]) gb 49 #[.int .i64 rr.me,.int .i64 rr.kept.view,.int .i64 rr.kept.normal,.bool rr.kept.calm,.slice E0 m0 z0,.int .i64 rr.kept.commit,.slice E1 rr.have_.length z1,.slice E2 rr.wants.length z2,.slice E3 rr.gives.length z3,.slice E4 rr.given.length z4] /\
  IsRep (X.setCells gb 0 [.int .i64 rr.me,.int .i64 rr.kept.view,.int .i64 rr.kept.normal,.bool rr.kept.calm,.slice E0 m0 z0,.int .i64 rr.kept.commit,.slice E1 rr.have_.length z1,.slice E2 rr.wants.length z2,.slice E3 rr.gives.length z3,.slice E4 rr.given.length z4]) 0 (.slice E0 m0 z0) (.slice E1 rr.have_.length z1) (.slice E2 rr.wants.length z2) (.slice E3 rr.gives.length z3) (.slice E4 rr.given.length z4) rr/\IsRow 137 8 80 MsgE (X.setCells gb 0 [.int .i64 rr.me,.int .i64 rr.kept.view,.int .i64 rr.kept.normal,.bool rr.kept.calm,.slice E0 m0 z0,.int .i64 rr.kept.commit,.slice E1 rr.have_.length z1,.slice E2 rr.wants.length z2,.slice E3 rr.gives.length z3,.slice E4 rr.given.length z4]) 0 ov ms:=by
 have hs:Same [9,3,4,44,137] 0 X (X.setCells gb 0 (rL rr E0 m0 z0 E1 z1 E2 z2 E3 z3 E4 z4)):=Same.sets _ 0 X _ hB (by decide)
 exact ⟨zAh hg _ 0 _ _ hX,zJi (xs:=[b0,b1,b2,b3,b4,b5,b6,b7,b8,b9]) hB rfl,(h1.below hx).same (hs.mono (by simp) (mC _)),IsMs.keep (IsMs.below h2 hx) (hs.mono (by simp) (mC _))⟩
end Go.Proofs.YtnpphdaakookcaaDoor
