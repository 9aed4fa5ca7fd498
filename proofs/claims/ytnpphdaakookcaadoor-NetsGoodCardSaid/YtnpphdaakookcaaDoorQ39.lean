/- Part 39: words and walks under the laws of the whole. -/
import Derived.Test.YtnpphdaakookcaaDoorQ37
import Derived.Test.YtnpphdaakookcaaDoorQ38
set_option linter.unusedVariables false
set_option linter.unusedSimpArgs false
set_option maxHeartbeats 4000000
set_option maxRecDepth 100000
namespace Go.Proofs.YtnpphdaakookcaaDoor
open Go.RowKit
theorem zKg {rs:List Scu.Replica} {k:Nat} (hk:k < rs.length):Scu.committed (rs.take (k+1))=Scu.comStep (Scu.committed (rs.take k)) rs[k]:=by
 rw [List.take_succ_eq_append_getElem hk]
 unfold Scu.committed
 rw [List.foldl_append]
 rfl
theorem zBo (rv sv fv cv tv ov:Value) (rs:List Scu.Replica) (w:World) (hr:IsRow 49 10 160 RepE w 0 rv rs) (Hj:∀ r ∈ rs,0<=r.kept.commit/\r.kept.commit<=r.kept.log.length)
 (hs:sv.oneCell'=true) (hf:fv.oneCell'=true) (hc:cv.oneCell'=true) (ht:tv.oneCell'=true) (ho:ov.oneCell'=true) :
 Calls Tryd.prog 20 #[.agg #[rv,sv,fv,cv,tv,ov]] w fun e w'=>(∃ A c,e=.returned (.slice A (Scu.committed rs).length c)/\IsStrs w' 0 (.slice A (Scu.committed rs).length c) (Scu.committed rs))/\Below w.heap.size w w':=by
 obtain ⟨Ar,cr,css,rfl,_⟩:=hr.ex
 have Hf:=hr.len
 unfold R47 at Hf
 have Hc:=zAa w (.cells #[.slice Ar rs.length cr,sv,fv,cv,tv,ov] 32)
 have HI:=mA (show IsStrs (w.alloc (.cells #[.slice Ar rs.length cr,sv,fv,cv,tv,ov] 32)) 0 (.slice none 0 0) (Scu.committed (rs.take 0))/\Below w.heap.size w (w.alloc (.cells #[.slice Ar rs.length cr,sv,fv,cv,tv,ov] 32)) from ⟨IsStrs.nil_,Hc⟩)
 have HR:=mA hr
 have Hp:=mA Hj
 clear hr Hj Hc
 go_enter Tryd.func20,Tryd.ntmps20
 go_wp2_with fail
 go_loopw [3,9] (fun o i wr=>∃ (k:Nat) (A:Option Addr) (n c:Nat),k<=rs.length/\i=.int .i64 k/\o=.slice A n c/\Hid (IsStrs wr 0 (.slice A n c) (Scu.committed (rs.take k))/\Below w.heap.size w wr)) (fun _ i _=>rs.length - (intOf i).toNat)
 case atStart=>exact ⟨0,none,0,0,mE _,rfl,rfl,HI⟩
 case round =>
  obtain ⟨k,A,n,c,hk,rfl,rfl,HK⟩:=hrel
  obtain ⟨co,Hd⟩:=mK (Scu.committed (rs.take k))
  rw [Hd] at HK
  obtain rfl:n=co.length:=by obtain ⟨⟨A',c',e,_⟩,_⟩:=HK.out.1;cases e;rfl
  by_cases Hg:k < rs.length
  ·have Hh:(k:Int) < (rs.length:Int):=by omega
   have Hq:=IsRow.same HR.out (Ts:=[49,9,3,4,44]) (by simp) (Same.below HK.out.2) (fun _ _ h=>h.same (Ts:=[9,3,4,44]) (by simp) (Same.below HK.out.2))
   obtain ⟨⟨A',c',css2,e,_,h2,h3,Hk,h4⟩,_⟩:=Hq
   obtain ⟨rfl,rfl⟩:Ar=A'/\cr=c':=by cases e;exact ⟨rfl,rfl⟩
   obtain ⟨g,o,cs1,rfl,hg,_,Ha,lu,hv,wv,gv,nv,e1,He⟩:=zDo h2 h3 (by decide) Hk h4 Hg
   subst e1
   obtain ⟨rk,Hi⟩:=mK (rs[k])
   have Hl:=Hp.out rs[k] (List.getElem_mem Hg)
   rw [Hi] at Ha He Hl
   obtain ⟨F0,n0,q0,F1,q1,F2,q2,F3,q3,F4,q4,rfl,rfl,rfl,rfl,rfl⟩:=He.forms
   obtain ⟨rfl,Hs⟩:n0=rk.kept.log.length/\rk.kept.log.length<=q0:=by obtain ⟨⟨A',c',e,h',_⟩,_⟩:=He.log;cases e;exact ⟨rfl,h'⟩
   obtain ⟨q,hq⟩:∃ q:Nat,rk.kept.commit=q:=⟨rk.kept.commit.toNat,by omega⟩
   have Hr:q<=rk.kept.log.length:=by omega
   have p0:wr.cell? ⟨g,o+k*10,none⟩=some (.int .i64 rk.me):=Ha 0 _ rfl
   have p1:wr.cell? ⟨g,o+k*10+1,none⟩=some (.int .i64 rk.kept.view):=Ha 1 _ rfl
   have p2:wr.cell? ⟨g,o+k*10+2,none⟩=some (.int .i64 rk.kept.normal):=Ha 2 _ rfl
   have p3:wr.cell? ⟨g,o+k*10+3,none⟩=some (.bool rk.kept.calm):=Ha 3 _ rfl
   have p4:wr.cell? ⟨g,o+k*10+4,none⟩=some (.slice F0 rk.kept.log.length q0):=Ha 4 _ rfl
   have p5:wr.cell? ⟨g,o+k*10+5,none⟩=some (.int .i64 q):=by rw [<- hq];exact Ha 5 _ rfl
   have p6:wr.cell? ⟨g,o+k*10+6,none⟩=some (.slice F1 rk.have_.length q1):=Ha 6 _ rfl
   have p7:wr.cell? ⟨g,o+k*10+7,none⟩=some (.slice F2 rk.wants.length q2):=Ha 7 _ rfl
   have p8:wr.cell? ⟨g,o+k*10+8,none⟩=some (.slice F3 rk.gives.length q3):=Ha 8 _ rfl
   have p9:wr.cell? ⟨g,o+k*10+9,none⟩=some (.slice F4 rk.given.length q4):=Ha 9 _ rfl
   have Hc:=zAa wr (.cells #[.int .i64 rk.me,.int .i64 rk.kept.view,.int .i64 rk.kept.normal,.bool rk.kept.calm,.slice F0 rk.kept.log.length q0,.int .i64 q,.slice F1 rk.have_.length q1,.slice F2 rk.wants.length q2,.slice F3 rk.gives.length q3,.slice F4 rk.given.length q4] 49)
   have HB:=mA (HK.out.2.trans (Hc.mono HK.out.2.size))
   have HS:=mA (HK.out.1.below Hc)
   have HL:=mA ((He.log.below Hc).take Hr)
   have Hb:=mA (show Scu.committed (rs.take (k+1))=if (co.length:Int) < q then rk.kept.log.take q else co by
    rw [zKg Hg,Hd,Hi]
    unfold Scu.comStep Scu.comOf
    rw [hq,Int.toNat_natCast])
   have Hm:(rk.kept.log.take q).length=q:=by rw [List.length_take];omega
   have Ht:=mA Hm
   clear e h2 h3 Hk h4 Ha He Hl Hi Hc Hd Hm hq
   by_cases Hn:(co.length:Int) < q
   ·have Hb:=mA (Hb.out.trans (if_pos Hn))
    go_wp2
    go_roundw
    case rel=>first | exact ⟨k+1,F0,q,q0,by omega,rfl,rfl,mA ⟨by rw [Hb.out];exact HL.out,HB.out⟩⟩ | ((repeat apply Exists.intro);exact ⟨⟨k+1,F0,q,q0,by omega,rfl,rfl,mA ⟨by rw [Hb.out];exact HL.out,HB.out⟩⟩,rfl⟩)
    case measure=>first | (simp only [intOf];omega) | (simp [intOf];omega)
   have Hb:=mA (Hb.out.trans (if_neg Hn))
   go_wp2
   go_roundw
   case rel=>first | exact ⟨k+1,A,co.length,c,by omega,rfl,rfl,mA ⟨by rw [Hb.out];exact HS.out,HB.out⟩⟩ | ((repeat apply Exists.intro);exact ⟨⟨k+1,A,co.length,c,by omega,rfl,rfl,mA ⟨by rw [Hb.out];exact HS.out,HB.out⟩⟩,rfl⟩)
   case measure=>first | (simp only [intOf];omega) | (simp [intOf];omega)
  have Ho:k=rs.length:=by omega
  have Hh:¬ (k:Int) < (rs.length:Int):=by omega
  have HF:=mA (show co=Scu.committed rs by rw [<- Hd,Ho,List.take_length])
  clear Ho Hd
  go_wp2
  go_ret
  rw [<- HF.out]
  exact ⟨⟨_,_,rfl,HK.out.1⟩,HK.out.2⟩
theorem OutW.forms {w:World} {rv sv fv cv tv ov:Value} {o:Scu.Outcome} (h:OutW w rv sv fv cv tv ov o):∃ A0 c0 A1 c1 A2 c2 A3 c3 A4 c4 A5 c5,rv=.slice A0 o.replicas.length c0/\sv=.slice A1 o.slots.length c1/\fv=.slice A2 o.flying.length c2/\cv=.slice A3 o.clients.length c3/\tv=.slice A4 o.told.length c4/\ov=.slice A5 o.codes.length c5:=by
 obtain ⟨A0,c0,_,e0,_⟩:=h.reps.ex
 obtain ⟨A1,c1,_,e1,_⟩:=h.slots.ex
 obtain ⟨A2,c2,_,e2,_⟩:=h.fly.ex
 obtain ⟨A3,c3,_,e3,_⟩:=h.cust.ex
 obtain ⟨A4,c4,_,e4,_⟩:=h.told.ex
 obtain ⟨A5,c5,e5,_⟩:=h.codes.ex
 exact ⟨_,_,_,_,_,_,_,_,_,_,_,_,e0,e1,e2,e3,e4,e5⟩
theorem zQf (A:Option Addr) (c:Nat) (l:List Scu.Act) (w:World) (hl:l.length<=300) (hx:IsActs w (.slice A l.length c) l) (o:Scu.Outcome) (ho:Scu.outOf (Scu.steps (Scu.netNew 3) l)=o) :
 Calls Tryd.prog 12 #[.int .i64 3,.slice A l.length c] w fun e w'=>(∃ A0 c0 A1 c1 A2 c2 A3 c3 A4 c4 A5 c5,e=.returned (.tuple #[.agg #[.slice A0 o.replicas.length c0,.slice A1 o.slots.length c1,.slice A2 o.flying.length c2,.slice A3 o.clients.length c3,.slice A4 o.told.length c4,.slice A5 o.codes.length c5],.int .i64 0])/\OutW w' (.slice A0 o.replicas.length c0) (.slice A1 o.slots.length c1) (.slice A2 o.flying.length c2) (.slice A3 o.clients.length c3) (.slice A4 o.told.length c4) (.slice A5 o.codes.length c5) o)/\Below w.heap.size w w':=by
 obtain ⟨x,codes,hy⟩:∃ x codes,Scu.steps (Scu.netNew 3) l=(x,codes):=⟨_,_,rfl⟩
 have:=zXa 3 (.slice A l.length c) l w (by decide) (by decide) hl hx x codes hy
 rw [hy] at ho
 rw [ho] at this
 refine this.mono ?_
 rintro e w' ⟨⟨rv,sv,fv,cv,tv,ov,rfl,h⟩,hb⟩
 obtain ⟨A0,c0,A1,c1,A2,c2,A3,c3,A4,c4,A5,c5,rfl,rfl,rfl,rfl,rfl,rfl⟩:=h.forms
 exact ⟨⟨_,_,_,_,_,_,_,_,_,_,_,_,rfl,h⟩,hb⟩
theorem zJu (l:List Scu.Raw) (most:Nat):(Scu.rawActs l most 3).length<=most:=by
 unfold Scu.rawActs
 rw [List.length_map,List.length_take]
 omega
theorem zQg {Ts:List TypeId} (hT:32 ∉ Ts) {W:World} {g:Nat} {cs:Array Value} (hB:Blk W g 32 cs) (a b c d e f:Value):Same Ts 0 W ((((((W.setCell ⟨g,0,none⟩ a).setCell ⟨g,1,none⟩ b).setCell ⟨g,2,none⟩ c).setCell ⟨g,3,none⟩ d).setCell ⟨g,4,none⟩ e).setCell ⟨g,5,none⟩ f).drew:=by
 have h0:=hB.set_ 0 a
 have h1:=h0.set_ 1 b
 have h2:=h1.set_ 2 c
 have h3:=h2.set_ 3 d
 have h4:=h3.set_ 4 e
 exact ((((((Same.set_ hB (mE _) hT 0 a).trans (Same.set_ h0 (mE _) hT 1 b)).trans (Same.set_ h1 (mE _) hT 2 c)).trans (Same.set_ h2 (mE _) hT 3 d)).trans (Same.set_ h3 (mE _) hT 4 e)).trans (Same.set_ h4 (mE _) hT 5 f)).trans (Same.drew _)
theorem zTu (X:World) (q:Addr):X.drew.cell? q=X.cell? q:=rfl
theorem zHn {W:World} {g:Nat} {q:Addr} (h:q.block≠g) (a b c d e f:Value):((((((W.setCell ⟨g,0,none⟩ a).setCell ⟨g,1,none⟩ b).setCell ⟨g,2,none⟩ c).setCell ⟨g,3,none⟩ d).setCell ⟨g,4,none⟩ e).setCell ⟨g,5,none⟩ f).drew.cell? q=W.cell? q :=
 (zTu _ _).trans ((zAm h).trans ((zAm h).trans ((zAm h).trans ((zAm h).trans ((zAm h).trans (zAm h))))))
theorem OutW.same {w w':World} {rv sv fv cv tv ov:Value} {o:Scu.Outcome} (h:OutW w rv sv fv cv tv ov o) (hs:Same [87,49,42,137,92,66,9,3,4,44,33] 0 w w'):OutW w' rv sv fv cv tv ov o :=
 ⟨IsRow.same h.reps (by simp) hs (fun _ _ h=>h.same (by simp) hs),IsRow.same h.slots (by simp) hs (fun _ _ h=>h.same (by simp) hs),IsRow.same h.fly (by simp) hs (fun _ _ h=>h.same (by simp) hs),
  IsRow.same h.cust (by simp) hs (fun _ _ h=>h),IsRow.same h.told (by simp) hs (fun _ _ h=>h),h.codes.same (by simp) hs⟩
theorem OwnR.appd {α:Type} {t:TypeId} {size bytes:Nat} {El:World->Nat->List Value->α->Prop} {w w':World} {base:Nat} {v v4:Value} {xs ys:List α} {css dss:List (List Value)} (h:OwnR t size bytes El w base v xs css) (hm:(xs.length+ys.length)*bytes<=R47) (hd:dss.length=ys.length) (Hb:∀ cs ∈ dss,cs.length=size)
 (hy:∀ (j:Nat) (cs:List Value) (x:α),dss[j]? = some cs->ys[j]? = some x->El w' 0 cs x)
 (h4:w'.ownsRow base t size v4 (xs.length+ys.length) (css.flatten ++ dss.flatten)) (Hc:∀ cs x,El w 0 cs x->El w' 0 cs x):OwnR t size bytes El w' base v4 (xs ++ ys) (css ++ dss):=by
 refine ⟨by simp [h.len,hd],?_,by rw [List.length_append,List.flatten_append];exact h4,?_,by rw [List.length_append];exact hm⟩
 ·intro cs Ha
  rcases List.mem_append.1 Ha with Ha | Ha
  ·exact h.sz cs Ha
  exact Hb cs Ha
 intro j cs x a b
 by_cases hj:j < xs.length
 ·rw [List.getElem?_append_left (by rw [h.len];exact hj)] at a
  rw [List.getElem?_append_left hj] at b
  exact Hc cs x (h.each j cs x a b)
 rw [List.getElem?_append_right (by rw [h.len];omega),h.len] at a
 rw [List.getElem?_append_right (by omega)] at b
 exact hy _ cs x a b
theorem zTv (l:List Scu.Act) (W:World):∀ (j:Nat) (cs:List Value) (x:Scu.Act),(l.map actV)[j]? = some cs->l[j]? = some x->ActE W 0 cs x:=by
 intro j cs x a b
 rw [List.getElem?_map,b] at a
 cases a
 rfl
theorem zXc (l:List Scu.Act):(l.map actV).flatten.length=l.length*9:=by
 induction l with
 | nil=>rfl
 | cons a l ih=>rw [List.map_cons,List.flatten_cons,List.length_append,ih];simp [actV];omega
theorem zXd (l:List Scu.Act):∀ u ∈ (l.map actV).flatten,u.oneCell'=true:=by
 intro u hu
 obtain ⟨cs,Ha,hu⟩:=List.mem_flatten.1 hu
 obtain ⟨a,_,rfl⟩:=List.mem_map.1 Ha
 exact zCb a u hu
theorem yAi {W:World} {g:Nat} {t:TypeId} {u0 u1 u2 u3 u4 u5:Value} (h:Blk W g t #[u0,u1,u2,u3,u4,u5]) (a b c d e f:Value):Blk ((((((W.setCell ⟨g,0,none⟩ a).setCell ⟨g,1,none⟩ b).setCell ⟨g,2,none⟩ c).setCell ⟨g,3,none⟩ d).setCell ⟨g,4,none⟩ e).setCell ⟨g,5,none⟩ f) g t #[a,b,c,d,e,f]:=by
 have h0:Blk _ g t #[a,u1,u2,u3,u4,u5]:=h.set_ 0 a
 have h1:Blk _ g t #[a,b,u2,u3,u4,u5]:=h0.set_ 1 b
 have h2:Blk _ g t #[a,b,c,u3,u4,u5]:=h1.set_ 2 c
 have h3:Blk _ g t #[a,b,c,d,u4,u5]:=h2.set_ 3 d
 have h4:Blk _ g t #[a,b,c,d,e,u5]:=h3.set_ 4 e
 have h5:Blk _ g t #[a,b,c,d,e,f]:=h4.set_ 5 f
 exact h5
theorem yBn (v:Value) (l:List Scu.Raw) (most:Nat) (w:World) (B:Nat) (hB:B<=w.heap.size) (hl:IsRaws w B v l) (ht:Tab w) (Am:Option Addr) (cm:Nat) (ml:List Scu.Act) (nm:Nat) (Hg:ml.length=nm) (hm:most+nm<=300)
 (Hi:∀ W,Below w.heap.size w W->Src1 W 9 (.slice Am nm cm) nm (ml.map actV).flatten) (la:List Scu.Act) (Hq:Scu.rawActs l most 3 ++ ml=la) (o:Scu.Outcome) (ho:Scu.outOf (Scu.steps (Scu.netNew 3) la)=o) :
 Calls Tryd.prog 19 #[v,.int .i64 most,.slice Am nm cm] w fun e w'=>(∃ A c A0 c0 A1 c1 A2 c2 A3 c3 A4 c4 A5 c5,e=.returned (.tuple #[.agg #[.slice A0 o.replicas.length c0,.slice A1 o.slots.length c1,.slice A2 o.flying.length c2,.slice A3 o.clients.length c3,.slice A4 o.told.length c4,.slice A5 o.codes.length c5],.slice A la.length c,.bool true])/\OutW w' (.slice A0 o.replicas.length c0) (.slice A1 o.slots.length c1) (.slice A2 o.flying.length c2) (.slice A3 o.clients.length c3) (.slice A4 o.told.length c4) (.slice A5 o.codes.length c5) o
  /\ IsActs w' (.slice A la.length c) la)/\Below w.heap.size w w':=by
 obtain ⟨Al,cl,rfl,Kx⟩:=hl.form'
 have Hv:=zJu l most
 obtain ⟨lr,Hw⟩:=mK (Scu.rawActs l most 3)
 have Kb:o.replicas.length=3:=by rw [<- ho];exact (Scu.came_run _).rlen.1
 have Kc:o.codes.length=la.length:=by rw [<- ho];exact Scu.steps_codes _ _
 rw [Hw] at Hv Hq
 have Hj:la.length=lr.length+nm:=by rw [<- Hq,List.length_append,Hg]
 have Hc:=zAa w (.cells #[.slice none 0 0,.slice none 0 0,.slice none 0 0,.slice none 0 0,.slice none 0 0,.slice none 0 0] 32)
 have K:=mA (zTr (.slice Al l.length cl) l most (w.alloc (.cells #[.slice none 0 0,.slice none 0 0,.slice none 0 0,.slice none 0 0,.slice none 0 0,.slice none 0 0] 32)) B (by simp;omega) (hl.below Hc) (ht.below Hc) (by omega))
 have HO:=mA ho
 have Hd:=mA (mB Hc (Blk.new w 32 #[.slice none 0 0,.slice none 0 0,.slice none 0 0,.slice none 0 0,.slice none 0 0,.slice none 0 0]))
 have Kn:=mA Kb
 have Ko:=mA Kc
 have Kp:=mA Hw
 have Hx:=mA Hi
 have Kq:=mA Hq
 have Kr:=mA Hg
 have Hk:=mA Hj
 clear hl ht Hc ho Kb Kc Hw Hi Hq Hg Hj
 go_enter Tryd.func19,Tryd.ntmps19
 go_wp2_with fail
 refine K.out.mono ?_;rintro e w1 ⟨⟨A,c,css,rfl,He⟩,h1⟩
 rw [Kp.out] at He ⊢
 have Hy:lr.length+nm<=300:=by omega
 have Hz:=mA He
 have Hr:=mA h1
 clear He h1
 go_wp2_with (at_builtin;refine zBc _ rfl (.tmp 14) (.tmp 15) 23 rfl zDt (w.alloc (.cells #[.slice none 0 0,.slice none 0 0,.slice none 0 0,.slice none 0 0,.slice none 0 0,.slice none 0 0] 32)).heap.size (.slice A lr.length c) lr.length css.flatten rfl Hz.out.row (.slice Am nm cm) nm (ml.map actV).flatten rfl (Hx.out _ (Hd.out.1.trans (Hr.out.mono Hd.out.1.size))) (zXd ml) (by unfold maxLen;omega) (by omega) Hr.out.size ?_)
 intro v4 x4 h4 Kd _
 obtain ⟨A9,c9,rfl,_,_,_,_⟩:=zAg h4
 have Hg:=Kr.out
 have Hs:OwnR 40 9 80 ActE x4 (w.heap.size+1) (.slice A9 (lr.length+nm) c9) (lr ++ ml) (css ++ ml.map actV):=by
  subst Hg
  have Ks:(w.alloc (.cells #[.slice none 0 0,.slice none 0 0,.slice none 0 0,.slice none 0 0,.slice none 0 0,.slice none 0 0] 32)).heap.size=w.heap.size+1:=by simp
  have Ke:=Hz.out
  rw [Ks] at Ke
  exact Ke.appd (by unfold R47;omega) (by simp) (by intro cs Kt;obtain ⟨a,_,rfl⟩:=List.mem_map.1 Kt;rfl) (zTv ml x4) h4 (fun _ _ h=>h)
 have Kf:=Hr.out.grown Kd Hr.out.size (fun q hq=>(Hz.out.row.lt q hq).1)
 rw [Kq.out] at Hs
 rw [<- Hk.out] at Hs ⊢
 have HX:=mA Hs.is
 have Hl:=mA Kf
 have Hy:la.length<=300:=by rw [Hk.out];exact Hy
 clear h4 Kd Hs Kf Hg
 go_wp2_with fail
 refine (zQf A9 c9 la x4 Hy HX.out o HO.out).mono ?_;rintro e w5 ⟨⟨A0,c0,A1,c1,A2,c2,A3,c3,A4,c4,A5,c5,rfl,Hm⟩,h5⟩
 go_upto_region 3 with fail
 have Hc:=zAa w5 (.cells #[.slice A0 o.replicas.length c0,.slice A1 o.slots.length c1,.slice A2 o.flying.length c2,.slice A3 o.clients.length c3,.slice A4 o.told.length c4,.slice A5 o.codes.length c5] 32)
 have Ht:=Blk.new w5 32 #[.slice A0 o.replicas.length c0,.slice A1 o.slots.length c1,.slice A2 o.flying.length c2,.slice A3 o.clients.length c3,.slice A4 o.told.length c4,.slice A5 o.codes.length c5]
 obtain ⟨Wd,Kg⟩:=mJ (w5.alloc (.cells #[.slice A0 o.replicas.length c0,.slice A1 o.slots.length c1,.slice A2 o.flying.length c2,.slice A3 o.clients.length c3,.slice A4 o.told.length c4,.slice A5 o.codes.length c5] 32))
 rw [<- Kg] at Hc Ht ⊢
 have Hn:=((Hd.out.2.same Hl.out).same h5).same Hc
 have Ho:=((Hd.out.1.trans (Hl.out.mono Hd.out.1.size)).trans (h5.mono (by have:=Hd.out.1.size;have:=Hl.out.size;omega))).trans (Hc.mono (by have:=Hd.out.1.size;have:=Hl.out.size;have:=h5.size;omega))
 have Ku:la.length<=300:=by omega
 have Ha:w5.heap.size≠w.heap.size:=by have:=Hd.out.1.size;have:=Hl.out.size;have:=h5.size;have:=Hd.out.2.lt;omega
 have Kh:IsActs Wd (.slice A9 la.length c9) la:=IsActs.below (IsActs.below HX.out h5) Hc
 have Hb:=mA (mB (Hm.below Hc) (mB Ho (mB Hn Kh)))
 obtain ⟨gt,Ki⟩:=mK (w5.heap.size)
 rw [Ki] at Ht Ha
 obtain ⟨b0,b1,b2,b3,b4,b5⟩:=cz6 Ht
 obtain ⟨r0,r1,r2,r3,r4,r5⟩:=cz6 Hn
 have rz:=Hn.frozen
 have rl:=Hn.lt
 have q3:(o.replicas.length:Int)=3:=by rw [Kn.out];rfl
 have qc:(o.codes.length:Int)=la.length:=by rw [Ko.out]
 clear Kg Hc Ht Hn Ho Kh h5 Hm
 go_wp2_with fail
 try rw [Ki]
 obtain ⟨S,Hu⟩:∃ S:World->Prop,S=fun w'=>w'.cell? ⟨gt,0,none⟩=some (.slice A0 o.replicas.length c0)/\w'.cell? ⟨gt,1,none⟩=some (.slice A1 o.slots.length c1)/\w'.cell? ⟨gt,2,none⟩=some (.slice A2 o.flying.length c2)/\w'.cell? ⟨gt,3,none⟩=some (.slice A3 o.clients.length c3)/\w'.cell? ⟨gt,4,none⟩=some (.slice A4 o.told.length c4)/\w'.cell? ⟨gt,5,none⟩=some (.slice A5 o.codes.length c5):=⟨_,rfl⟩
 have Ka:S Wd.drew:=by rw [Hu];exact ⟨b0,b1,b2,b3,b4,b5⟩
 refine wp_region_held (S:=S) (by kernel_rfl) ?_
 change wpAnyH _ _ _ _ _ _ _ _ Wd.drew
 refine tkHs [0,1,2,3,4,5,6,7,8,9,10,11,12,13,14,15,16,17] (by kernel_rfl) (fun _ _ _ _ _ h=>h) Ka ?_
 iterate 18
  refine tkc (v:=?_) rfl (Or.inl ⟨by rfl,?_⟩) ?_
  rotate_left
  ·(intro wv Hp;rw [Hu] at Hp;obtain ⟨s0,s1,s2,s3,s4,s5⟩:=Hp;go_simp;(try with_reducible rfl))
  (try simp only [Act.put,zp1,zp2,zp3])
 refine tkz ?_
 refine alH 18 (by kernel_rfl) (wpOp_step (o:=_) rfl fun KA Kv=>?_)
 go_simp
 refine genW (P:=fun W=>KA _ W) (fun W6 Hh=>?_)
 have Kj:S W6:=by
  rw [Hu,Hh]
  exact ⟨(zHn (W:=Wd) (q:=⟨gt,0,none⟩) Ha _ _ _ _ _ _).trans b0,(zHn (W:=Wd) (q:=⟨gt,1,none⟩) Ha _ _ _ _ _ _).trans b1,(zHn (W:=Wd) (q:=⟨gt,2,none⟩) Ha _ _ _ _ _ _).trans b2,(zHn (W:=Wd) (q:=⟨gt,3,none⟩) Ha _ _ _ _ _ _).trans b3,(zHn (W:=Wd) (q:=⟨gt,4,none⟩) Ha _ _ _ _ _ _).trans b4,(zHn (W:=Wd) (q:=⟨gt,5,none⟩) Ha _ _ _ _ _ _).trans b5⟩
 have Kk:Same [87,49,42,137,92,66,9,3,4,44,33] 0 Wd W6:=by rw [Hh];exact zQg (by decide) Hb.out.2.2.1 _ _ _ _ _ _
 have Kl:Same [40] 0 Wd W6:=by rw [Hh];exact zQg (by decide) Hb.out.2.2.1 _ _ _ _ _ _
 have Km:Below w.heap.size w W6:=by rw [Hh];exact (zNq Hb.out.2.1 (mC _) _ _ _ _ _ _).drew
 have Kw:Blk W6 w.heap.size 32 #[.slice A0 o.replicas.length c0,.slice A1 o.slots.length c1,.slice A2 o.flying.length c2,.slice A3 o.clients.length c3,.slice A4 o.told.length c4,.slice A5 o.codes.length c5]:=by rw [Hh];exact (yAi Hb.out.2.2.1 _ _ _ _ _ _).drew
 have Hf:=mA (mB (Hb.out.1.same Kk) (mB (IsRow.same Hb.out.2.2.2 (by simp) Kl (fun _ _ h=>h)) Km))
 clear Hh Kk Kl Km r0 r1 r2 r3 r4 r5 rz rl b0 b1 b2 b3 b4 b5 Hb
 obtain ⟨r0,r1,r2,r3,r4,r5⟩:=cz6 Kw
 refine Kv _ _ ⟨Kj,?_⟩
 (try simp only [Act.put,zp1,zp2,zp3])
 have Ka:=Kj
 refine tkHs [19,20] (by kernel_rfl) (fun _ _ _ _ _ h=>h) Ka ?_
 iterate 2
  refine tkc (v:=?_) rfl (Or.inl ⟨by rfl,?_⟩) ?_
  rotate_left
  ·(intro wv Hp;rw [Hu] at Hp;obtain ⟨s0,s1,s2,s3,s4,s5⟩:=Hp;go_simp;(try with_reducible rfl))
  (try simp only [Act.put,zp1,zp2,zp3])
 refine tkz ?_
 refine wpAnyH_done (by kernel_rfl) ?_ _
 (try simp only [Act.put,zp1,zp2,zp3])
 go_wp2
 refine bodyPost_ret (v:=.tuple #[.agg #[.slice A0 o.replicas.length c0,.slice A1 o.slots.length c1,.slice A2 o.flying.length c2,.slice A3 o.clients.length c3,.slice A4 o.told.length c4,.slice A5 o.codes.length c5],.slice A9 la.length c9,.bool true]) (by simp [results,Tryd.results19,go_sem,r0,r1,r2,r3,r4,r5]) rfl ?_
 exact ⟨⟨_,_,_,_,_,_,_,_,_,_,_,_,_,_,rfl,Hf.out.1,Hf.out.2.1⟩,Hf.out.2.2⟩
end Go.Proofs.YtnpphdaakookcaaDoor
