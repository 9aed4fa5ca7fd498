/- Part 30: words and walks under the laws of the whole. -/
import Derived.Test.YtnpphdaakookcaaDoorQ25
import Derived.Test.YtnpphdaakookcaaDoorQ29
set_option linter.unusedVariables false
set_option linter.unusedSimpArgs false
set_option maxHeartbeats 4000000
set_option maxRecDepth 100000
namespace Go.Proofs.YtnpphdaakookcaaDoor
open Go.RowKit
theorem IsStrs.take {w:World} {B:Nat} {A:Option Addr} {n c:Nat} {xs:List Scu.Str} (h:IsStrs w B (.slice A n c) xs) {k:Nat} (hk:k<=xs.length):IsStrs w B (.slice A k c) (xs.take k):=by
 obtain ⟨⟨A',c',e,hc,hr⟩,h2,h3⟩:=h
 cases e
 have hl:(xs.take k).length=k:=by rw [List.length_take];omega
 refine ⟨⟨A,c,by rw [hl],by omega,?_⟩,by rw [hl];omega,fun s hs=>h3 s (List.mem_of_mem_take hs)⟩
 rw [List.map_take]
 exact hr.take k
theorem zQd (A:Option Addr) (n c:Nat) (l:List Scu.Str) (w:World) (B:Nat) (hv:IsStrs w B (.slice A n c) l) (st:Scu.State) (er:Int) (h:Scu.play l=(st,er)) :
 Calls Tryd.prog 24 #[.slice A n c] w fun e w'=>(∃ A0 n0 c0 A1 n1 c1 A2 c2,e=.returned (.tuple #[.agg #[.slice A0 n0 c0,.slice A1 n1 c1,.slice A2 st.lasts.length c2],.int .i64 er])/\IsState w' 0 (.slice A0 n0 c0) (.slice A1 n1 c1) (.slice A2 st.lasts.length c2) st)/\Below w.heap.size w w':=by
 have:=yBf (.slice A n c) l w B hv
 rw [h] at this
 refine this.mono ?_
 rintro e w' ⟨⟨nv,sv,lv,rfl,hs⟩,hb⟩
 obtain ⟨A0,n0,c0,rfl⟩:=hs.vol.now.form
 obtain ⟨A1,n1,c1,rfl⟩:=hs.vol.snaps.form
 obtain ⟨A2,c2,rfl,_⟩:=hs.lasts.ex
 exact ⟨⟨_,_,_,_,_,_,_,_,rfl,hs⟩,hb⟩
theorem zWk (c:Nat) (rk:Scu.Replica) (F0:Option Addr) (q0:Nat) (hv wv gv nv:Value) (w:World) (base gx gc cc:Nat) (x:Scu.Net) (rv sv fv tv:Value) (hN:NetW w base gx x rv sv fv (.slice (some ⟨gc,0,none⟩) x.clients.length cc) tv) (hb:base<=w.heap.size) (hc:c < x.clients.length) (hr:IsRep w 0 (.slice F0 rk.kept.log.length q0) hv wv gv nv rk) (Ha:0<=rk.kept.view) (hl:Scu.leads rk=false) (y:Scu.Net) (f:Int) (hy:y=x/\f=14):Calls Tryd.prog 62 #[.pointer (some ⟨gx,0,none⟩),.pointer (some ⟨gc,c*8,none⟩),.agg #[.int .i64 rk.me,.int .i64 rk.kept.view,.int .i64 rk.kept.normal,.bool rk.kept.calm,.slice F0 rk.kept.log.length q0,.int .i64 rk.kept.commit,hv,wv,gv,nv]] w fun e w'=>e=.returned (.int .i64 f)/\NetE w' base gx y/\Fr base w w':=by
 have HL:=mA hl
 clear hl
 have Hh:rk.kept.log.length<=q0:=by obtain ⟨A',c',e,h',_⟩:=hr.log.ex;cases e;exact h'
 obtain ⟨A1',c1',A2',c2',A3',c3',A4',c4',e1',e2',e3',e4'⟩:∃ A1 c1 A2 c2 A3 c3 A4 c4,hv=.slice A1 rk.have_.length c1/\wv=.slice A2 rk.wants.length c2/\gv=.slice A3 rk.gives.length c3/\nv=.slice A4 rk.given.length c4:=by
  obtain ⟨_,_,_,A1,c1,A2,c2,A3,c3,A4,c4,_,h1,h2,h3,h4⟩:=hr.forms
  exact ⟨_,_,_,_,_,_,_,_,h1,h2,h3,h4⟩
 subst e1' e2' e3' e4'
 have Hb:=zAa w (.cells (rN rk F0 rk.kept.log.length q0 A1' c1' A2' c2' A3' c3' A4' c4') 49)
 have HN:=mA (hN.below Hb)
 have HR:=mA (hr.below Hb)
 have HB:=mA (Blk.new w 49 (rN rk F0 rk.kept.log.length q0 A1' c1' A2' c2' A3' c3' A4' c4'))
 have Hc:=mA (Fr.of Hb hb)
 have HY:=mA hy
 clear hN hr Hb hy
 go_enter Tryd.func62,Tryd.ntmps62
 go_upto_region 1 with fail
 obtain ⟨Wd,He⟩:=mJ (w.alloc (.cells (rN rk F0 rk.kept.log.length q0 A1' c1' A2' c2' A3' c3' A4' c4') 49))
 rw [<- He] at HN HB Hc HR ⊢
 clear He
 have Hd:=HB.out
 obtain ⟨b0,b1,b2,b3,b4,b5,b6,b7,b8,b9⟩:=cz10 Hd
 have bl:=Hd.lt
 clear Hd
 go_wp2_with fail
 refine (zDb _ _ _ _ _ rk Ha Wd false HL.out).mono ?_;rintro en w2 ⟨rfl,h2⟩
 have Hf:=mA (HN.out.below h2)
 have Hi:=mA (HR.out.below h2)
 have Hg:=mA (Hc.out.trans (Fr.of h2 (mD hb Hc.out.size)))
 have c4:=cW h2 bl b4
 have c5:=cW h2 bl b5
 have bl2:w.heap.size < w2.heap.size:=mF bl h2.size
 clear h2 b0 b1 b2 b3 b4 b5 b6 b7 b8 b9 bl HN HR HB Hc
 go_wp2
 go_ret
 exact ⟨zAb (zAd HY.out.2.symm),by rw [HY.out.1];exact Hf.out.e,Hg.out⟩
theorem zWl (c:Nat) (rk:Scu.Replica) (F0:Option Addr) (q0:Nat) (hv wv gv nv:Value) (w:World) (base gx gc cc:Nat) (x:Scu.Net) (rv sv fv tv:Value) (hN:NetW w base gx x rv sv fv (.slice (some ⟨gc,0,none⟩) x.clients.length cc) tv) (hb:base<=w.heap.size) (hc:c < x.clients.length) (hr:IsRep w 0 (.slice F0 rk.kept.log.length q0) hv wv gv nv rk) (Ha:0<=rk.kept.view) (hl:Scu.leads rk=true) (q:Nat) (Hj:rk.kept.commit=q) (Hp:q<=rk.kept.log.length) (st:Scu.State) (er:Int) (hp:Scu.play (rk.kept.log.take q)=(st,er)) (Hk:er≠0) (y:Scu.Net) (f:Int) (hy:y=x/\f=er):Calls Tryd.prog 62 #[.pointer (some ⟨gx,0,none⟩),.pointer (some ⟨gc,c*8,none⟩),.agg #[.int .i64 rk.me,.int .i64 rk.kept.view,.int .i64 rk.kept.normal,.bool rk.kept.calm,.slice F0 rk.kept.log.length q0,.int .i64 rk.kept.commit,hv,wv,gv,nv]] w fun e w'=>e=.returned (.int .i64 f)/\NetE w' base gx y/\Fr base w w':=by
 have Hq:(er != 0)=true:=by simpa using Hk
 clear Hk
 have HL:=mA hl
 have HP:=mA hp
 have Hr:=mA Hj
 clear hl hp Hj
 have Hu:rk.kept.log.length<=q0:=by obtain ⟨A',c',e,h',_⟩:=hr.log.ex;cases e;exact h'
 obtain ⟨A1',c1',A2',c2',A3',c3',A4',c4',e1',e2',e3',e4'⟩:∃ A1 c1 A2 c2 A3 c3 A4 c4,hv=.slice A1 rk.have_.length c1/\wv=.slice A2 rk.wants.length c2/\gv=.slice A3 rk.gives.length c3/\nv=.slice A4 rk.given.length c4:=by
  obtain ⟨_,_,_,A1,c1,A2,c2,A3,c3,A4,c4,_,h1,h2,h3,h4⟩:=hr.forms
  exact ⟨_,_,_,_,_,_,_,_,h1,h2,h3,h4⟩
 subst e1' e2' e3' e4'
 have Hb:=zAa w (.cells (rN rk F0 rk.kept.log.length q0 A1' c1' A2' c2' A3' c3' A4' c4') 49)
 have HN:=mA (hN.below Hb)
 have HR:=mA (hr.below Hb)
 have HB:=mA (Blk.new w 49 (rN rk F0 rk.kept.log.length q0 A1' c1' A2' c2' A3' c3' A4' c4'))
 have Hc:=mA (Fr.of Hb hb)
 have HY:=mA hy
 clear hN hr Hb hy
 go_enter Tryd.func62,Tryd.ntmps62
 go_upto_region 1 with fail
 obtain ⟨Wd,Hl⟩:=mJ (w.alloc (.cells (rN rk F0 rk.kept.log.length q0 A1' c1' A2' c2' A3' c3' A4' c4') 49))
 rw [<- Hl] at HN HB Hc HR ⊢
 clear Hl
 have He:=HB.out
 obtain ⟨b0,b1,b2,b3,b4,b5,b6,b7,b8,b9⟩:=cz10 He
 have bl:=He.lt
 clear He
 go_wp2_with fail
 refine (zDb _ _ _ _ _ rk Ha Wd true HL.out).mono ?_;rintro en w2 ⟨rfl,h2⟩
 have Hm:=mA (HN.out.below h2)
 have Hn:=mA (HR.out.below h2)
 have Hf:=mA (Hc.out.trans (Fr.of h2 (mD hb Hc.out.size)))
 have c4:=cW h2 bl b4
 have c5:=cW h2 bl b5
 have bl2:w.heap.size < w2.heap.size:=mF bl h2.size
 clear h2 b0 b1 b2 b3 b4 b5 b6 b7 b8 b9 bl HN HR HB Hc
 have Hv:(0:Int)<=(q:Int)/\(q:Int)<=(q0:Int):=⟨by omega,by omega⟩
 rw [Hr.out] at c5
 go_wp2_with fail
 refine (zQd F0 q q0 (rk.kept.log.take q) w2 0 (Hn.out.log.take Hp) st er HP.out).mono ?_;rintro en w3 ⟨⟨A0,n0,c0,A1,n1,c1,A2,c2,rfl,hs⟩,h3⟩
 have HS:=mA hs
 have Hg:=mA h3
 clear hs h3 c4 c5 bl2
 go_upto_region 4 with fail
 obtain ⟨W4,Hd⟩:=mJ (w3.alloc (.cells #[.slice A0 n0 c0,.slice A1 n1 c1,.slice A2 st.lasts.length c2] 72))
 rw [<- Hd]
 have Hh:Below w3.heap.size w3 W4:=by rw [Hd];exact zAa _ _
 have Ho:Blk W4 w3.heap.size 72 #[.slice A0 n0 c0,.slice A1 n1 c1,.slice A2 st.lasts.length c2]:=by rw [Hd];exact Blk.new _ _ _
 have Hi:=Hg.out.trans (Hh.mono Hg.out.size)
 have Hs:=mA (Hm.out.below Hi)
 have Ht:=mA (Hf.out.trans (Fr.of Hi (mD hb Hf.out.size)))
 have Hw:=mA (HS.out.lasts.below Hh)
 have Hx:=mA Ho
 clear Hd Hh Ho Hi HS Hg Hm Hf Hn
 go_wp2
 go_ret
 exact ⟨zAb (zAd HY.out.2.symm),by rw [HY.out.1];exact Hs.out.e,Ht.out⟩
theorem zWm (c:Nat) (rk:Scu.Replica) (F0:Option Addr) (q0:Nat) (hv wv gv nv:Value) (w:World) (base gx gc cc:Nat) (x:Scu.Net) (rv sv fv tv:Value) (hN:NetW w base gx x rv sv fv (.slice (some ⟨gc,0,none⟩) x.clients.length cc) tv) (hb:base<=w.heap.size) (hc:c < x.clients.length) (hr:IsRep w 0 (.slice F0 rk.kept.log.length q0) hv wv gv nv rk) (Hd:0<=rk.kept.view) (hl:Scu.leads rk=true) (q:Nat) (Kb:rk.kept.commit=q) (Kq:q<=rk.kept.log.length) (st:Scu.State) (hp:Scu.play (rk.kept.log.take q)=(st,0)) (id0:Nat) (He:x.clients[c].id=(id0:Int)+1) (Kr:id0 < 4) (Hi:st.lasts.length=4) (Kc:(st.lasts.getD id0 Scu.last0).num≠x.clients[c].wait.num) (y:Scu.Net) (f:Int) (hy:y=x/\f=12):Calls Tryd.prog 62 #[.pointer (some ⟨gx,0,none⟩),.pointer (some ⟨gc,c*8,none⟩),.agg #[.int .i64 rk.me,.int .i64 rk.kept.view,.int .i64 rk.kept.normal,.bool rk.kept.calm,.slice F0 rk.kept.log.length q0,.int .i64 rk.kept.commit,hv,wv,gv,nv]] w fun e w'=>e=.returned (.int .i64 f)/\NetE w' base gx y/\Fr base w w':=by
 obtain ⟨er,Kd⟩:∃ er:Int,er=0:=⟨_,rfl⟩
 rw [<- Kd] at hp
 have Ke:=mA Hi
 have Ks:=mA He
 have Kt:=mA Kc
 clear He Kc Hi
 have HL:=mA hl
 have HP:=mA hp
 have Ku:=mA Kb
 clear hl hp Kb
 have Vj:rk.kept.log.length<=q0:=by obtain ⟨A',c',e,h',_⟩:=hr.log.ex;cases e;exact h'
 obtain ⟨A1',c1',A2',c2',A3',c3',A4',c4',e1',e2',e3',e4'⟩:∃ A1 c1 A2 c2 A3 c3 A4 c4,hv=.slice A1 rk.have_.length c1/\wv=.slice A2 rk.wants.length c2/\gv=.slice A3 rk.gives.length c3/\nv=.slice A4 rk.given.length c4:=by
  obtain ⟨_,_,_,A1,c1,A2,c2,A3,c3,A4,c4,_,h1,h2,h3,h4⟩:=hr.forms
  exact ⟨_,_,_,_,_,_,_,_,h1,h2,h3,h4⟩
 subst e1' e2' e3' e4'
 have Hj:=zAa w (.cells (rN rk F0 rk.kept.log.length q0 A1' c1' A2' c2' A3' c3' A4' c4') 49)
 have HN:=mA (hN.below Hj)
 have HR:=mA (hr.below Hj)
 have HB:=mA (Blk.new w 49 (rN rk F0 rk.kept.log.length q0 A1' c1' A2' c2' A3' c3' A4' c4'))
 have Hk:=mA (Fr.of Hj hb)
 have HY:=mA hy
 clear hN hr Hj hy
 go_enter Tryd.func62,Tryd.ntmps62
 go_upto_region 1 with fail
 obtain ⟨Wd,Kf⟩:=mJ (w.alloc (.cells (rN rk F0 rk.kept.log.length q0 A1' c1' A2' c2' A3' c3' A4' c4') 49))
 rw [<- Kf] at HN HB Hk HR ⊢
 clear Kf
 have Hq:=HB.out
 obtain ⟨b0,b1,b2,b3,b4,b5,b6,b7,b8,b9⟩:=cz10 Hq
 have bl:=Hq.lt
 clear Hq
 go_wp2_with fail
 refine (zDb _ _ _ _ _ rk Hd Wd true HL.out).mono ?_;rintro en w2 ⟨rfl,h2⟩
 have Kg:=mA (HN.out.below h2)
 have Kh:=mA (HR.out.below h2)
 have Hr:=mA (Hk.out.trans (Fr.of h2 (mD hb Hk.out.size)))
 have c4:=cW h2 bl b4
 have c5:=cW h2 bl b5
 have bl2:w.heap.size < w2.heap.size:=mF bl h2.size
 clear h2 b0 b1 b2 b3 b4 b5 b6 b7 b8 b9 bl HN HR HB Hk
 have Vk:(0:Int)<=(q:Int)/\(q:Int)<=(q0:Int):=⟨by omega,by omega⟩
 rw [Ku.out] at c5
 go_wp2_with fail
 refine (zQd F0 q q0 (rk.kept.log.take q) w2 0 (Kh.out.log.take Kq) st er HP.out).mono ?_;rintro en w3 ⟨⟨A0,n0,c0,A1,n1,c1,A2,c2,rfl,hs⟩,h3⟩
 have HS:=mA hs
 have Hs:=mA h3
 clear hs h3 c4 c5 bl2
 go_upto_region 4 with fail
 obtain ⟨W4,Hl⟩:=mJ (w3.alloc (.cells #[.slice A0 n0 c0,.slice A1 n1 c1,.slice A2 st.lasts.length c2] 72))
 rw [<- Hl]
 have Ht:Below w3.heap.size w3 W4:=by rw [Hl];exact zAa _ _
 have Ki:Blk W4 w3.heap.size 72 #[.slice A0 n0 c0,.slice A1 n1 c1,.slice A2 st.lasts.length c2]:=by rw [Hl];exact Blk.new _ _ _
 have Hu:=Hs.out.trans (Ht.mono Hs.out.size)
 have Kj:=mA (Kg.out.below Hu)
 have Hv:=mA (Hr.out.trans (Fr.of Hu (mD hb Hr.out.size)))
 have Kk:=mA (HS.out.lasts.below Ht)
 have Hw:=mA Ki
 clear Hl Ht Ki Hu HS Hs Kg Hr Kh
 subst Kd
 have Hi:=Ke.out
 have Kv:IntKind.i64.wrap ((id0:Int)+1 - 1)=(id0:Int):=by rw [IntWalk.i64_in _ (by omega)];omega
 have Kw:IntKind.i64.wrap (id0:Int)=(id0:Int):=IntWalk.i64_in _ (by omega)
 have Kl:(0:Int)<=(id0:Int):=by omega
 have Kx:(id0:Int)+1 - 1=(id0:Int):=by omega
 have Ky:(id0:Int) < (st.lasts.length:Int):=by omega
 obtain ⟨gc',cc',ec,Kz,Va,Hm,Hf,curc,Vb⟩:=Kj.out.custAt hc
 cases ec
 obtain ⟨Ax,cx,ex,_,Km⟩:=Kk.out.ex
 cases ex
 have Hx:id0 < st.lasts.length:=by omega
 clear Hi
 obtain ⟨la,Hy⟩:=mK (st.lasts[id0])
 obtain ⟨gl,ol,eA,gll,t0,t1,t2,t3⟩:=zGo Km Hx
 rw [Hy] at t0 t1 t2 t3
 obtain ⟨cu,Hn⟩:=mK (x.clients[c])
 rw [Hn] at Hm
 subst eA
 have u0:W4.cell? ⟨gc,c*8,none⟩=some (.int .i64 ((id0:Int)+1)):=by rw [<- Ks.out,Hn];exact Hm 0 _ rfl
 obtain ⟨-,-,s2⟩:=cz3 Hw.out
 have sl:=Hw.out.lt
 have gcl:gc < W4.heap.size:=Va
 have Vc:=mA Hy
 have Vd:=mA Hn
 have Ve:=mA Hm
 have Vf:=mA Hf
 clear Km Hy Hn Hm Hf Kz Vb
 go_wp2_with fail
 obtain ⟨S,Hg⟩:∃ S:World->Prop,S=fun w'=>Below W4.heap.size W4 w':=⟨_,rfl⟩
 have Ho:S W4.drew:=by rw [Hg];exact (mG _ _).drew
 refine wp_region_held (S:=S) (by kernel_rfl) ?_
 change wpAnyH _ _ _ _ _ _ _ _ W4.drew
 have Vg:=fun (wv:World) (Hb:Below W4.heap.size W4 wv)=>mB (cW Hb sl s2) (mB (cW Hb gcl u0) (mB (cW Hb gll t0) (mB (cW Hb gll t1) (mB (cW Hb gll t2) (cW Hb gll t3)))))
 refine tkHs [0,1,2,3,4,5,6,7,8] (by kernel_rfl) (fun _ _ _ _ _ h=>h) Ho ?_
 iterate 9
  refine tkc (v:=?_) rfl (Or.inl ⟨by rfl,?_⟩) ?_
  rotate_left
  ·(intro wv Hb;rw [Hg] at Hb;obtain ⟨q0,q1,l0,l1,l2,l3⟩:=Vg wv Hb;go_simp;(try with_reducible rfl))
  (try simp only [Act.put,zp1,zp2,zp3])
 refine tkz ?_
 refine alH 9 (by kernel_rfl) (wpOp_step (o:=_) rfl fun KA Kn=>?_)
 go_simp
 have Ho:S (W4.drew.alloc (.cells #[.int .i64 0,.int .i64 0,.int .i64 0,.string ⟨#[]⟩] 76)):=by rw [Hg];exact (mG _ _).drew.alloc (mC _) _
 refine Kn _ _ ⟨Ho,?_⟩
 (try simp only [Act.put,zp1,zp2,zp3])
 refine alH 10 (by kernel_rfl) (wpOp_step (o:=_) rfl fun KB Ko=>?_)
 rw [if_pos (by rfl)]
 have Hz:Blk (W4.drew.alloc (.cells #[.int .i64 0,.int .i64 0,.int .i64 0,.string ⟨#[]⟩] 76)) W4.heap.size 76 #[.int .i64 0,.int .i64 0,.int .i64 0,.string ⟨#[]⟩]:=Blk.new' rfl
 refine wp_store_mid 76 (.tmp 9) (.tmp 35) rfl W4.heap.size 0 #[.int .i64 la.num,.int .i64 la.reply.code,.int .i64 la.reply.n,.string la.reply.data] rfl rfl (zAs Hz) (by kernel_rfl) (all_oneCell_toArray (cs:=[.int .i64 la.num,.int .i64 la.reply.code,.int .i64 la.reply.n,.string la.reply.data]) (by intro v hv;simp only [List.mem_cons,List.not_mem_nil,or_false] at hv;rcases hv with rfl | rfl | rfl | rfl <;> rfl)) ?_
 obtain ⟨W5,Hh⟩:=mJ ((W4.drew.alloc (.cells #[.int .i64 0,.int .i64 0,.int .i64 0,.string ⟨#[]⟩] 76)).setCells W4.heap.size 0 [.int .i64 la.num,.int .i64 la.reply.code,.int .i64 la.reply.n,.string la.reply.data])
 have Hc:Below W4.heap.size W4 W5:=by rw [Hh];exact zAh (mC _) _ 0 _ _ ((mG _ _).drew.alloc (mC _) _)
 have Hp:Blk W5 W4.heap.size 76 #[.int .i64 la.num,.int .i64 la.reply.code,.int .i64 la.reply.n,.string la.reply.data]:=by rw [Hh];exact zJi (xs:=[.int .i64 0,.int .i64 0,.int .i64 0,.string ⟨#[]⟩]) Hz rfl
 have Ka:S W5:=by rw [Hg];exact Hc
 refine Ko _ _ ⟨by rw [Hh] at Ka;exact Ka,wpAnyH_done (by kernel_rfl) ?_ _⟩
 (try simp only [Act.put,zp1,zp2,zp3])
 change Exit.then _ _ _ _ ((W4.drew.alloc (.cells #[.int .i64 0,.int .i64 0,.int .i64 0,.string ⟨#[]⟩] 76)).setCells W4.heap.size 0 [.int .i64 la.num,.int .i64 la.reply.code,.int .i64 la.reply.n,.string la.reply.data])
 rw [<- Hh]
 have Vh:=mA (Kj.out.below Hc)
 have Kp:=mA (Hv.out.trans (Fr.of Hc (mD hb Hv.out.size)))
 have Vl:=mA Hp
 obtain ⟨k0,k1,k2,k3⟩:=cz4 Hp
 have kl:=Hp.lt
 have Ha:=fun (j:Nat) (v:Value) (hj:(custV cu)[j]? = some v)=>(Hc.cell (p:=⟨gc,c*8+j,none⟩) gcl).trans (Ve.out j v hj)
 have v0:W5.cell? ⟨gc,c*8+2,none⟩=some (.int .i64 cu.wait.client):=Ha 2 _ rfl
 have v1:W5.cell? ⟨gc,c*8+3,none⟩=some (.int .i64 cu.wait.num):=Ha 3 _ rfl
 have v2:W5.cell? ⟨gc,c*8+4,none⟩=some (.int .i64 cu.wait.op.kind):=Ha 4 _ rfl
 have v3:W5.cell? ⟨gc,c*8+5,none⟩=some (.int .i64 cu.wait.op.at_):=Ha 5 _ rfl
 have v4:W5.cell? ⟨gc,c*8+6,none⟩=some (.int .i64 cu.wait.op.snap):=Ha 6 _ rfl
 have v5:W5.cell? ⟨gc,c*8+7,none⟩=some (.string cu.wait.op.data):=Ha 7 _ rfl
 have gcl5:gc < W5.heap.size:=mF gcl Hc.size
 have Vm:=mA Hc
 clear Ha Hh Hc Hp Ka Ho Hg Kn Ko Hz t0 t1 t2 t3 u0 s2 sl gll Kk Hw Hv
 have Vi:(la.num != cu.wait.num)=true:=by
  have h:=Kt.out
  rw [mI,mH (by rw [Ke.out];omega),Option.getD_some,Vc.out,Vd.out] at h
  simpa using h
 go_wp2_with fail
 go_quiet (fail)
 go_wp2
 go_ret
 exact ⟨zAb (zAd HY.out.2.symm),by rw [HY.out.1];exact Vh.out.e.below (below_drewN (mG _ _) _),Kp.out.trans (Fr.of (below_drewN (mG _ _) _) (mD hb Kp.out.size))⟩
theorem zWn (W:World) (t:Scu.Told):Src1 (W.alloc (.cells (toldV t).toArray 66)) 9 (.slice (some ⟨W.heap.size,0,none⟩) 1 1) 1 (toldV t):=by
 refine ⟨rfl,.inr ⟨_,_,rfl,fun j v hj=>?_⟩⟩
 rw [zKy,(Blk.new W 66 (toldV t).toArray).cell j]
 simpa using hj
theorem zWo (t:Scu.Told):∀ v ∈ toldV t,v.oneCell'=true:=by
 intro v hv
 simp only [toldV,List.mem_cons,List.not_mem_nil,or_false] at hv
 rcases hv with rfl | rfl | rfl | rfl | rfl | rfl | rfl | rfl | rfl <;> rfl
theorem zDa {w w':World} {g:Nat} {t:TypeId} {cs:Array Value} {Ts:List TypeId} (hB:Blk w g t cs) (hs:Same Ts 0 w w') (ht:t ∈ Ts) (i:Nat):w'.cell? ⟨g,i,none⟩=w.cell? ⟨g,i,none⟩ :=
 World.cell?_of_block (hs.keep g hB.lt (.inr ⟨_,_,_,ht,hB⟩))
theorem zTm {w:World} {g o n:Nat} (h:w.there g o n) (j m:Nat) (hj:j+m<=n):w.there g (o+j) m:=fun i hi=>by
 have:=h (j+i) (by omega)
 rwa [<- Nat.add_assoc] at this
theorem zWp (c:Nat) (rk:Scu.Replica) (F0:Option Addr) (q0:Nat) (hv wv gv nv:Value) (w:World) (base gx gc cc:Nat) (x:Scu.Net) (rv sv fv tv:Value) (hN:NetW w base gx x rv sv fv (.slice (some ⟨gc,0,none⟩) x.clients.length cc) tv) (hb:base<=w.heap.size) (hc:c < x.clients.length) (hr:IsRep w 0 (.slice F0 rk.kept.log.length q0) hv wv gv nv rk) (Hr:0<=rk.kept.view) (hl:Scu.leads rk=true) (q:Nat) (Ky:rk.kept.commit=q) (Vu:q<=rk.kept.log.length) (st:Scu.State) (hp:Scu.play (rk.kept.log.take q)=(st,0)) (id0:Nat) (Hs:x.clients[c].id=(id0:Int)+1) (Vv:id0 < 4) (Hz:st.lasts.length=4) (Kz:(st.lasts.getD id0 Scu.last0).num=x.clients[c].wait.num) (Gs:x.told.length<=1000)
 (y:Scu.Net) (f:Int) (hy:y = { x with told:=x.told ++ [⟨x.clients[c].wait,(st.lasts.getD id0 Scu.last0).reply⟩],clients:=x.clients.set c { x.clients[c] with wait:=Scu.req0 } }/\f=0):Calls Tryd.prog 62 #[.pointer (some ⟨gx,0,none⟩),.pointer (some ⟨gc,c*8,none⟩),.agg #[.int .i64 rk.me,.int .i64 rk.kept.view,.int .i64 rk.kept.normal,.bool rk.kept.calm,.slice F0 rk.kept.log.length q0,.int .i64 rk.kept.commit,hv,wv,gv,nv]] w fun e w'=>e=.returned (.int .i64 f)/\NetE w' base gx y/\Fr base w w':=by
 obtain ⟨er,Va⟩:∃ er:Int,er=0:=⟨_,rfl⟩
 rw [<- Va] at hp
 have Vw:=mA Hz
 have Vx:=mA Hs
 have Vy:=mA Kz
 clear Hs Kz Hz
 have HL:=mA hl
 have HP:=mA hp
 have Vz:=mA Ky
 clear hl hp Ky
 have Gt:rk.kept.log.length<=q0:=by obtain ⟨A',c',e,h',_⟩:=hr.log.ex;cases e;exact h'
 obtain ⟨A1',c1',A2',c2',A3',c3',A4',c4',e1',e2',e3',e4'⟩:∃ A1 c1 A2 c2 A3 c3 A4 c4,hv=.slice A1 rk.have_.length c1/\wv=.slice A2 rk.wants.length c2/\gv=.slice A3 rk.gives.length c3/\nv=.slice A4 rk.given.length c4:=by
  obtain ⟨_,_,_,A1,c1,A2,c2,A3,c3,A4,c4,_,h1,h2,h3,h4⟩:=hr.forms
  exact ⟨_,_,_,_,_,_,_,_,h1,h2,h3,h4⟩
 subst e1' e2' e3' e4'
 have Hd:=zAa w (.cells (rN rk F0 rk.kept.log.length q0 A1' c1' A2' c2' A3' c3' A4' c4') 49)
 have HN:=mA (hN.below Hd)
 have HR:=mA (hr.below Hd)
 have HB:=mA (Blk.new w 49 (rN rk F0 rk.kept.log.length q0 A1' c1' A2' c2' A3' c3' A4' c4'))
 have Ka:=mA (Fr.of Hd hb)
 have HY:=mA hy
 clear hN hr Hd hy
 go_enter Tryd.func62,Tryd.ntmps62
 go_upto_region 1 with fail
 obtain ⟨Wd,Vb⟩:=mJ (w.alloc (.cells (rN rk F0 rk.kept.log.length q0 A1' c1' A2' c2' A3' c3' A4' c4') 49))
 rw [<- Vb] at HN HB Ka HR ⊢
 clear Vb
 have Ki:=HB.out
 obtain ⟨b0,b1,b2,b3,b4,b5,b6,b7,b8,b9⟩:=cz10 Ki
 have bl:=Ki.lt
 clear Ki
 go_wp2_with fail
 refine (zDb _ _ _ _ _ rk Hr Wd true HL.out).mono ?_;rintro en w2 ⟨rfl,h2⟩
 have Vc:=mA (HN.out.below h2)
 have Vd:=mA (HR.out.below h2)
 have Kj:=mA (Ka.out.trans (Fr.of h2 (mD hb Ka.out.size)))
 have c4:=cW h2 bl b4
 have c5:=cW h2 bl b5
 have bl2:w.heap.size < w2.heap.size:=mF bl h2.size
 clear h2 b0 b1 b2 b3 b4 b5 b6 b7 b8 b9 bl HN HR HB Ka
 have Gu:(0:Int)<=(q:Int)/\(q:Int)<=(q0:Int):=⟨by omega,by omega⟩
 rw [Vz.out] at c5
 go_wp2_with fail
 refine (zQd F0 q q0 (rk.kept.log.take q) w2 0 (Vd.out.log.take Vu) st er HP.out).mono ?_;rintro en w3 ⟨⟨A0,n0,c0,A1,n1,c1,A2,c2,rfl,hs⟩,h3⟩
 have HS:=mA hs
 have Kk:=mA h3
 clear hs h3 c4 c5 bl2
 go_upto_region 4 with fail
 obtain ⟨W4,Kb⟩:=mJ (w3.alloc (.cells #[.slice A0 n0 c0,.slice A1 n1 c1,.slice A2 st.lasts.length c2] 72))
 rw [<- Kb]
 have Kl:Below w3.heap.size w3 W4:=by rw [Kb];exact zAa _ _
 have Ve:Blk W4 w3.heap.size 72 #[.slice A0 n0 c0,.slice A1 n1 c1,.slice A2 st.lasts.length c2]:=by rw [Kb];exact Blk.new _ _ _
 have Km:=Kk.out.trans (Kl.mono Kk.out.size)
 have Vf:=mA (Vc.out.below Km)
 have Kn:=mA (Kj.out.trans (Fr.of Km (mD hb Kj.out.size)))
 have Vg:=mA (HS.out.lasts.below Kl)
 have Ko:=mA Ve
 clear Kb Kl Ve Km HS Kk Vc Kj Vd
 subst Va
 have Hz:=Vw.out
 have Ga:IntKind.i64.wrap ((id0:Int)+1 - 1)=(id0:Int):=by rw [IntWalk.i64_in _ (by omega)];omega
 have Gb:IntKind.i64.wrap (id0:Int)=(id0:Int):=IntWalk.i64_in _ (by omega)
 have Vh:(0:Int)<=(id0:Int):=by omega
 have Gc:(id0:Int)+1 - 1=(id0:Int):=by omega
 have Gd:(id0:Int) < (st.lasts.length:Int):=by omega
 obtain ⟨gc',cc',ec,Ge,Gf,Kc,Ht,curc,Gg⟩:=Vf.out.custAt hc
 cases ec
 obtain ⟨Ax,cx,ex,_,Vi⟩:=Vg.out.ex
 cases ex
 have Hu:id0 < st.lasts.length:=by omega
 clear Hz
 obtain ⟨la,Kp⟩:=mK (st.lasts[id0])
 obtain ⟨gl,ol,eA,gll,t0,t1,t2,t3⟩:=zGo Vi Hu
 rw [Kp] at t0 t1 t2 t3
 obtain ⟨cu,Kd⟩:=mK (x.clients[c])
 rw [Kd] at Kc
 subst eA
 have u0:W4.cell? ⟨gc,c*8,none⟩=some (.int .i64 ((id0:Int)+1)):=by rw [<- Vx.out,Kd];exact Kc 0 _ rfl
 obtain ⟨-,-,s2⟩:=cz3 Ko.out
 have sl:=Ko.out.lt
 have gcl:gc < W4.heap.size:=Gf
 have Gi:=mA Kp
 have Kq:=mA Kd
 have Gj:=mA Kc
 have Gk:=mA Ht
 clear Vi Kp Kd Kc Ht Ge Gg
 go_wp2_with fail
 obtain ⟨S,Hg⟩:∃ S:World->Prop,S=fun w'=>Below W4.heap.size W4 w':=⟨_,rfl⟩
 have Hh:S W4.drew:=by rw [Hg];exact (mG _ _).drew
 refine wp_region_held (S:=S) (by kernel_rfl) ?_
 change wpAnyH _ _ _ _ _ _ _ _ W4.drew
 have Gl:=fun (wv:World) (Hf:Below W4.heap.size W4 wv)=>mB (cW Hf sl s2) (mB (cW Hf gcl u0) (mB (cW Hf gll t0) (mB (cW Hf gll t1) (mB (cW Hf gll t2) (cW Hf gll t3)))))
 refine tkHs [0,1,2,3,4,5,6,7,8] (by kernel_rfl) (fun _ _ _ _ _ h=>h) Hh ?_
 iterate 9
  refine tkc (v:=?_) rfl (Or.inl ⟨by rfl,?_⟩) ?_
  rotate_left
  ·(intro wv Hf;rw [Hg] at Hf;obtain ⟨q0,q1,l0,l1,l2,l3⟩:=Gl wv Hf;go_simp;(try with_reducible rfl))
  (try simp only [Act.put,zp1,zp2,zp3])
 refine tkz ?_
 refine alH 9 (by kernel_rfl) (wpOp_step (o:=_) rfl fun KA Vj=>?_)
 go_simp
 have Hh:S (W4.drew.alloc (.cells #[.int .i64 0,.int .i64 0,.int .i64 0,.string ⟨#[]⟩] 76)):=by rw [Hg];exact (mG _ _).drew.alloc (mC _) _
 refine Vj _ _ ⟨Hh,?_⟩
 (try simp only [Act.put,zp1,zp2,zp3])
 refine alH 10 (by kernel_rfl) (wpOp_step (o:=_) rfl fun KB Hv=>?_)
 rw [if_pos (by rfl)]
 have Kr:Blk (W4.drew.alloc (.cells #[.int .i64 0,.int .i64 0,.int .i64 0,.string ⟨#[]⟩] 76)) W4.heap.size 76 #[.int .i64 0,.int .i64 0,.int .i64 0,.string ⟨#[]⟩]:=Blk.new' rfl
 refine wp_store_mid 76 (.tmp 9) (.tmp 35) rfl W4.heap.size 0 #[.int .i64 la.num,.int .i64 la.reply.code,.int .i64 la.reply.n,.string la.reply.data] rfl rfl (zAs Kr) (by kernel_rfl) (all_oneCell_toArray (cs:=[.int .i64 la.num,.int .i64 la.reply.code,.int .i64 la.reply.n,.string la.reply.data]) (by intro v hv;simp only [List.mem_cons,List.not_mem_nil,or_false] at hv;rcases hv with rfl | rfl | rfl | rfl <;> rfl)) ?_
 obtain ⟨W5,Hw⟩:=mJ ((W4.drew.alloc (.cells #[.int .i64 0,.int .i64 0,.int .i64 0,.string ⟨#[]⟩] 76)).setCells W4.heap.size 0 [.int .i64 la.num,.int .i64 la.reply.code,.int .i64 la.reply.n,.string la.reply.data])
 have Hn:Below W4.heap.size W4 W5:=by rw [Hw];exact zAh (mC _) _ 0 _ _ ((mG _ _).drew.alloc (mC _) _)
 have Ke:Blk W5 W4.heap.size 76 #[.int .i64 la.num,.int .i64 la.reply.code,.int .i64 la.reply.n,.string la.reply.data]:=by rw [Hw];exact zJi (xs:=[.int .i64 0,.int .i64 0,.int .i64 0,.string ⟨#[]⟩]) Kr rfl
 have Ks:S W5:=by rw [Hg];exact Hn
 refine Hv _ _ ⟨by rw [Hw] at Ks;exact Ks,wpAnyH_done (by kernel_rfl) ?_ _⟩
 (try simp only [Act.put,zp1,zp2,zp3])
 change Exit.then _ _ _ _ ((W4.drew.alloc (.cells #[.int .i64 0,.int .i64 0,.int .i64 0,.string ⟨#[]⟩] 76)).setCells W4.heap.size 0 [.int .i64 la.num,.int .i64 la.reply.code,.int .i64 la.reply.n,.string la.reply.data])
 rw [<- Hw]
 have Vk:=mA (Vf.out.below Hn)
 have Kt:=mA (Kn.out.trans (Fr.of Hn (mD hb Kn.out.size)))
 have Vl:=mA Ke
 obtain ⟨k0,k1,k2,k3⟩:=cz4 Ke
 have kl:=Ke.lt
 have Hc:=fun (j:Nat) (v:Value) (hj:(custV cu)[j]? = some v)=>(Hn.cell (p:=⟨gc,c*8+j,none⟩) gcl).trans (Gj.out j v hj)
 have v0:W5.cell? ⟨gc,c*8+2,none⟩=some (.int .i64 cu.wait.client):=Hc 2 _ rfl
 have v1:W5.cell? ⟨gc,c*8+3,none⟩=some (.int .i64 cu.wait.num):=Hc 3 _ rfl
 have v2:W5.cell? ⟨gc,c*8+4,none⟩=some (.int .i64 cu.wait.op.kind):=Hc 4 _ rfl
 have v3:W5.cell? ⟨gc,c*8+5,none⟩=some (.int .i64 cu.wait.op.at_):=Hc 5 _ rfl
 have v4:W5.cell? ⟨gc,c*8+6,none⟩=some (.int .i64 cu.wait.op.snap):=Hc 6 _ rfl
 have v5:W5.cell? ⟨gc,c*8+7,none⟩=some (.string cu.wait.op.data):=Hc 7 _ rfl
 have gcl5:gc < W5.heap.size:=mF gcl Hn.size
 have Gv:=mA Hn
 clear Hc Hw Hn Ke Ks Hh Hg Vj Hv Kr t0 t1 t2 t3 u0 s2 sl gll Vg Ko Kn
 have Ku:st.lasts.getD id0 Scu.last0=la:=by rw [mI,mH Hu,Option.getD_some,Gi.out]
 have Gm:(la.num != cu.wait.num)=false:=by
  have h:=Vy.out
  rw [Ku,Kq.out] at h
  simpa using h
 have Gn:=mA Ku
 clear Ku
 go_wp2_with fail
 go_quiet (fail)
 go_wp2_with fail
 obtain ⟨W6,Hi⟩:=mJ (W5.drewN nq)
 have Hq:Below W5.heap.size W5 W6:=by rw [Hi];exact below_drewN (mG _ _) _
 change Code.wp _ _ _ _ (W5.drewN nq)
 rw [<- Hi]
 have Ho:=Vk.out.below Hq
 obtain ⟨B0,e0,B1,e1,B2,e2,B3,e3,B4,e4,rfl,rfl,rfl,ecv,rfl⟩:=Ho.forms
 cases ecv
 obtain ⟨-,-,-,-,d4⟩:=cz5 Ho.box
 have dz:=Ho.box.frozen
 have dl:=Ho.box.lt
 have k1:W6.cell? ⟨W4.heap.size,1,none⟩=some (.int .i64 la.reply.code):=by rw [Hi];exact k1
 have k2:W6.cell? ⟨W4.heap.size,2,none⟩=some (.int .i64 la.reply.n):=by rw [Hi];exact k2
 have k3:W6.cell? ⟨W4.heap.size,3,none⟩=some (.string la.reply.data):=by rw [Hi];exact k3
 have v0:W6.cell? ⟨gc,c*8+2,none⟩=some (.int .i64 cu.wait.client):=by rw [Hi];exact v0
 have v1:W6.cell? ⟨gc,c*8+3,none⟩=some (.int .i64 cu.wait.num):=by rw [Hi];exact v1
 have v2:W6.cell? ⟨gc,c*8+4,none⟩=some (.int .i64 cu.wait.op.kind):=by rw [Hi];exact v2
 have v3:W6.cell? ⟨gc,c*8+5,none⟩=some (.int .i64 cu.wait.op.at_):=by rw [Hi];exact v3
 have v4:W6.cell? ⟨gc,c*8+6,none⟩=some (.int .i64 cu.wait.op.snap):=by rw [Hi];exact v4
 have v5:W6.cell? ⟨gc,c*8+7,none⟩=some (.string cu.wait.op.data):=by rw [Hi];exact v5
 obtain ⟨tss,Vm⟩:=Ho.told
 have Go:=mA Vm
 have Kf:=mA Ho
 have Vn:=mA (Kt.out.trans (Fr.of Hq (mD hb Kt.out.size)))
 have Gp:=mA (Vl.out.same Hq)
 have Kv:base<=W6.heap.size:=mD hb Vn.out.size
 have kl6:W4.heap.size < W6.heap.size:=mF kl Hq.size
 have gcl6:gc < W6.heap.size:=mF gcl5 Hq.size
 clear Hi Hq Vm Ho k0 Vk Kt
 obtain ⟨S,Hg⟩:∃ S:World->Prop,S=fun w'=>w'.cell? ⟨gx,4,none⟩=some (.slice B4 x.told.length e4)/\w'.cell? ⟨W4.heap.size,1,none⟩=some (.int .i64 la.reply.code)/\w'.cell? ⟨W4.heap.size,2,none⟩=some (.int .i64 la.reply.n)/\w'.cell? ⟨W4.heap.size,3,none⟩=some (.string la.reply.data)/\w'.cell? ⟨gc,c*8+2,none⟩=some (.int .i64 cu.wait.client)/\w'.cell? ⟨gc,c*8+3,none⟩=some (.int .i64 cu.wait.num)/\w'.cell? ⟨gc,c*8+4,none⟩=some (.int .i64 cu.wait.op.kind)/\w'.cell? ⟨gc,c*8+5,none⟩=some (.int .i64 cu.wait.op.at_)/\w'.cell? ⟨gc,c*8+6,none⟩=some (.int .i64 cu.wait.op.snap)/\w'.cell? ⟨gc,c*8+7,none⟩=some (.string cu.wait.op.data):=⟨_,rfl⟩
 have Hh:S W6.drew:=by rw [Hg];exact ⟨d4,k1,k2,k3,v0,v1,v2,v3,v4,v5⟩
 refine zAq S 16 (by kernel_rfl) (fun Hk=>?_)
 change wpAnyE _ _ _ _ _ _ _ _ _ W6.drew
 refine tkEs 12 [0,1,2,3,4,5,6,7,8,9,10,11] (by kernel_rfl) (fun _ _ _ _ _ h=>h) Hk Hh ?_
 iterate 12
  refine tkc (v:=?_) rfl (Or.inl ⟨by rfl,?_⟩) ?_
  rotate_left
  ·(intro wv Hf;rw [Hg] at Hf;obtain ⟨s0,s1,s2,s3,s4,s5,s6,s7,s8,s9⟩:=Hf;go_simp;(try with_reducible rfl))
  (try simp only [Act.put,zp1,zp2,zp3])
 refine tkz (fun Hk=>?_)
 refine alE 12 (by kernel_rfl) (wpOp_step (o:=_) rfl fun KB Hv=>?_)
 go_simp
 have Hd:=(mG W6.heap.size W6).drew.alloc (mC _) (.cells #[.int .i64 cu.wait.client,.int .i64 cu.wait.num,.int .i64 cu.wait.op.kind,.int .i64 cu.wait.op.at_,.int .i64 cu.wait.op.snap,.string cu.wait.op.data,.int .i64 la.reply.code,.int .i64 la.reply.n,.string la.reply.data] 66)
 have Hh:S (W6.drew.alloc (.cells #[.int .i64 cu.wait.client,.int .i64 cu.wait.num,.int .i64 cu.wait.op.kind,.int .i64 cu.wait.op.at_,.int .i64 cu.wait.op.snap,.string cu.wait.op.data,.int .i64 la.reply.code,.int .i64 la.reply.n,.string la.reply.data] 66)):=by
  rw [Hg]
  exact ⟨cW Hd dl d4,cW Hd kl6 k1,cW Hd kl6 k2,cW Hd kl6 k3,
   cW Hd gcl6 v0,cW Hd gcl6 v1,cW Hd gcl6 v2,cW Hd gcl6 v3,cW Hd gcl6 v4,cW Hd gcl6 v5⟩
 refine Hv _ _ ⟨.inr Hh,?_⟩
 have Hk:=Hk.set (i:=12) (by rw [<- List.contains_iff_mem];kernel_rfl)
 (try simp only [Act.put,zp1,zp2,zp3])
 have Vo:=Kf.out.below Hd
 have Kg:=Go.out.same (B:=0) (Ts:=[66]) (by simp) (Same.below Hd) (fun _ _ h=>h)
 refine alE 13 (by kernel_rfl) (wpOp_step (o:=_) rfl fun KC Vp=>?_)
 rw [if_pos (by rfl)]
 refine zHt _ (.tmp 48) (.tmp 56) 29 rfl zVh base (.slice B4 x.told.length e4) x.told.length tss.flatten rfl Kg.row (.slice (some ⟨W6.heap.size,0,none⟩) 1 1) 1 (toldV (⟨cu.wait,la.reply⟩:Scu.Told)) rfl (zWn W6.drew (⟨cu.wait,la.reply⟩:Scu.Told)) (zWo (⟨cu.wait,la.reply⟩:Scu.Told)) (by unfold maxLen;omega) (by omega) (mD Kv Hd.size) ?_
 intro v9 x4 h4 Kw _
 obtain ⟨A9,c9,rfl,_,_,_,_⟩:=zAg h4
 have Kh:=Vo.pushTold (t:=(⟨cu.wait,la.reply⟩:Scu.Told)) Kg (by unfold R47;omega) h4 Kw (mD Kv Hd.size)
 have Hx:Same [87,76,92] 0 W6 x4:=(Same.below Hd).trans (Same.own Kg.row Kw (mE _) (by decide))
 have Gq:=Vl.out
 have Hm:Blk W6 W4.heap.size 76 #[.int .i64 la.num,.int .i64 la.reply.code,.int .i64 la.reply.n,.string la.reply.data]:=Gp.out
 have Hj:=zDa Kf.out.box Hx (by simp)
 have He:=zDa Hm Hx (by simp)
 obtain ⟨gq,cq,eq,_,_,_,Kx,curq,Vq⟩:=Kf.out.custAt hc
 cases eq
 have Ha:=zDa Vq Hx (by simp)
 have Hh:S x4:=by
  rw [Hg]
  exact ⟨(Hj 4).trans d4,(He 1).trans k1,(He 2).trans k2,(He 3).trans k3,(Ha _).trans v0,(Ha _).trans v1,(Ha _).trans v2,(Ha _).trans v3,(Ha _).trans v4,(Ha _).trans v5⟩
 have Hl:=zAc Kf.out.box Hx (by simp)
 obtain ⟨-,-,-,-,g4⟩:=cz5 Hl
 have gz:=Hl.frozen
 have gl4:=Hl.lt
 refine Vp _ _ ⟨.inr Hh,?_⟩
 have Hk:=Hk.set (i:=13) (by rw [<- List.contains_iff_mem];kernel_rfl)
 (try simp only [Act.put,zp1,zp2,zp3])
 refine tkEs 12 [14,15] (by kernel_rfl) (fun _ _ _ _ _ h=>h) Hk Hh ?_
 iterate 2
  refine tkc (v:=?_) rfl (Or.inl ⟨by rfl,?_⟩) ?_
  rotate_left
  ·(intro wv Hf;rw [Hg] at Hf;obtain ⟨s0,s1,s2,s3,s4,s5,s6,s7,s8,s9⟩:=Hf;go_simp;(try with_reducible rfl))
  (try simp only [Act.put,zp1,zp2,zp3])
 refine tkz (fun Hk=>?_)
 refine alE 16 (by kernel_rfl) (wpOp_step (o:=_) rfl fun KD Vr=>?_)
 go_simp
 refine Vr _ _ ⟨.inl rfl,zAp (by kernel_rfl) ?_ _⟩
 (try simp only [Act.put,zp1,zp2,zp3])
 obtain ⟨W7,Vs⟩:=mJ (x4.setCell ⟨gx,4,none⟩ (.slice A9 (x.told.length+1) c9))
 change Exit.then _ _ _ _ (x4.setCell ⟨gx,4,none⟩ (.slice A9 (x.told.length+1) c9))
 rw [<- Vs] at Kh ⊢
 have Vt:=mA Kh.1
 have Gr:=mA (Vn.out.trans ((Fr.of Hd Kv).trans Kh.2))
 obtain ⟨gq,cq,eq,_,Gw,_,Hb,_⟩:=Vt.out.custAt hc
 cases eq
 obtain ⟨y2,z2⟩:=Option.isSome_iff_exists.1 (Hb 2 (by decide)).1
 obtain ⟨y3,z3⟩:=Option.isSome_iff_exists.1 (Hb 3 (by decide)).1
 obtain ⟨y4,z4⟩:=Option.isSome_iff_exists.1 (Hb 4 (by decide)).1
 obtain ⟨y5,z5⟩:=Option.isSome_iff_exists.1 (Hb 5 (by decide)).1
 obtain ⟨y6,z6⟩:=Option.isSome_iff_exists.1 (Hb 6 (by decide)).1
 obtain ⟨y7,z7⟩:=Option.isSome_iff_exists.1 (Hb 7 (by decide)).1
 have f2:=(Hb 2 (by decide)).2
 have f3:=(Hb 3 (by decide)).2
 have f4:=(Hb 4 (by decide)).2
 have f5:=(Hb 5 (by decide)).2
 have f6:=(Hb 6 (by decide)).2
 have f7:=(Hb 7 (by decide)).2
 clear Vs Kh Hx Gq Hm Hj He Ha Kx Vq Hh Hl g4 gz gl4 Vr Vp Hv Hg Hk Hd Vo Kg h4 Kw d4 dz dl k1 k2 k3 v0 v1 v2 v3 v4 v5 kl6 gcl6 kl gcl5 Hb
 have Hy:=Vt.out.putCust (k:=c) hc 2 [.int .i64 0,.int .i64 0,.int .i64 0,.int .i64 0,.int .i64 0,.string ⟨#[]⟩] (by decide) (u:={ x.clients[c] with wait:=Scu.req0 }) rfl
 have Hp:=mA Hy
 clear Hy
 have HE:=mA (mB Hp.out.1.e (Gr.out.trans Hp.out.2))
 clear Hp
 go_wp2
 go_ret
 exact ⟨zAb (zAd HY.out.2.symm),by rw [HY.out.1,Gn.out,Kq.out];rw [Kq.out] at HE;exact HE.out.1,HE.out.2⟩
theorem zOu (c:Nat) (rk:Scu.Replica) (F0:Option Addr) (q0:Nat) (hv wv gv nv:Value) (w:World) (base gx gc cc:Nat) (x:Scu.Net) (rv sv fv tv:Value) (hN:NetW w base gx x rv sv fv (.slice (some ⟨gc,0,none⟩) x.clients.length cc) tv) (hb:base<=w.heap.size) (hc:c < x.clients.length) (hr:IsRep w 0 (.slice F0 rk.kept.log.length q0) hv wv gv nv rk) (Ha:0<=rk.kept.view) (q:Nat) (He:rk.kept.commit=q) (Hg:q<=rk.kept.log.length) (id0:Nat) (Hb:x.clients[c].id=(id0:Int)+1) (Hc:id0 < 4) (Hd:∀ st,Scu.play (rk.kept.log.take q)=(st,0)->st.lasts.length=4) (Hk:x.told.length<=1000)
 (y:Scu.Net) (f:Int) (hy:Scu.answer x c rk=(y,f)):Calls Tryd.prog 62 #[.pointer (some ⟨gx,0,none⟩),.pointer (some ⟨gc,c*8,none⟩),.agg #[.int .i64 rk.me,.int .i64 rk.kept.view,.int .i64 rk.kept.normal,.bool rk.kept.calm,.slice F0 rk.kept.log.length q0,.int .i64 rk.kept.commit,hv,wv,gv,nv]] w fun e w'=>e=.returned (.int .i64 f)/\NetE w' base gx y/\Fr base w w':=by
 have Hl:x.clients.getD c Scu.cust0=x.clients[c]:=by rw [mI,mH hc];rfl
 unfold Scu.answer at hy
 rw [Hl,He,Int.toNat_natCast] at hy
 dsimp only at hy
 rw [Hb,show ((id0:Int)+1 - 1).toNat=id0 by omega] at hy
 by_cases hl:Scu.leads rk=false
 ·rw [if_pos hl] at hy
  exact zWk c rk F0 q0 hv wv gv nv w base gx gc cc x rv sv fv tv hN hb hc hr Ha hl y f ⟨(Prod.mk.inj hy).1.symm,(Prod.mk.inj hy).2.symm⟩
 rw [if_neg hl] at hy
 have Hh:Scu.leads rk=true:=by simpa using hl
 obtain ⟨st,er,hp⟩:∃ st er,Scu.play (rk.kept.log.take q)=(st,er):=⟨_,_,rfl⟩
 rw [hp] at hy
 dsimp only at hy
 by_cases her:er≠0
 ·rw [if_pos her] at hy
  exact zWl c rk F0 q0 hv wv gv nv w base gx gc cc x rv sv fv tv hN hb hc hr Ha Hh q He Hg st er hp her y f ⟨(Prod.mk.inj hy).1.symm,(Prod.mk.inj hy).2.symm⟩
 rw [if_neg her] at hy
 have Hi:er=0:=Decidable.not_not.1 her
 subst Hi
 have Hj:=Hd st hp
 by_cases Hf:(st.lasts.getD id0 Scu.last0).num≠x.clients[c].wait.num
 ·rw [if_pos Hf] at hy
  exact zWm c rk F0 q0 hv wv gv nv w base gx gc cc x rv sv fv tv hN hb hc hr Ha Hh q He Hg st hp id0 Hb Hc Hj Hf y f ⟨(Prod.mk.inj hy).1.symm,(Prod.mk.inj hy).2.symm⟩
 rw [if_neg Hf] at hy
 exact zWp c rk F0 q0 hv wv gv nv w base gx gc cc x rv sv fv tv hN hb hc hr Ha Hh q He Hg st hp id0 Hb Hc Hj (Decidable.not_not.1 Hf) Hk y f ⟨(Prod.mk.inj hy).1.symm.trans (by rw [<- Hb]),(Prod.mk.inj hy).2.symm⟩
end Go.Proofs.YtnpphdaakookcaaDoor
