/- Part 19: words and walks under the laws of the whole. -/
import Derived.BigRegion
import Derived.Test.YtjnjhmkgfjikfaaDoorLv15
import Derived.Test.YtjnjhmkgfjikfaaDoorLv18
set_option linter.unusedVariables false
set_option linter.unusedSimpArgs false
set_option maxHeartbeats 4000000
set_option maxRecDepth 100000
namespace Go.Proofs.YtjnjhmkgfjikfaaDoor
open Go.RowKit
theorem want3 {r:Scu.Replica} (h:Rep3 r) (v:Int):Rep3 (Scu.want r v).1:=⟨rfl,by simp [Scu.want,Scu.fresh],rfl,rfl,h.2.2.2.2⟩
theorem wantIf3 {r:Scu.Replica} (h:Rep3 r) (v:Int):Rep3 (Scu.wantIf r v).1:=by
 unfold Scu.wantIf
 split
 ·exact want3 h v
 exact h
theorem zCh (r:Scu.Replica) (v:Int):(Scu.wantIf r v).2.length<=3:=by
 unfold Scu.wantIf
 split
 ·exact zGv r.me v { Scu.msg0 with kind:=3 } 3
 exact mE _
theorem zBi (r:Scu.Replica) (v:Int) (h:0<=r.kept.view):0<=(Scu.wantIf r v).1.kept.view:=by
 unfold Scu.wantIf
 split
 ·show 0<=v;omega
 exact h
theorem zCi {r:Scu.Replica} {m:Scu.Message} {a:Scu.Replica × List Scu.Message} (ha:Scu.wantIf r m.view=a) (h:a.1.kept.calm=true\/a.1.wants.getD m.from_.toNat false=true):Scu.hearWant r m=a:=by
 subst ha
 unfold Scu.hearWant
 exact if_pos h
theorem zEr {r:Scu.Replica} {m:Scu.Message} {a:Scu.Replica × List Scu.Message} (ha:Scu.wantIf r m.view=a) (h:¬ (a.1.kept.calm=true\/a.1.wants.getD m.from_.toNat false=true)) :
 Scu.hearWant r m=((Scu.giveOut { a.1 with wants:=a.1.wants.set m.from_.toNat true }).1,a.2 ++ (Scu.giveOut { a.1 with wants:=a.1.wants.set m.from_.toNat true }).2):=by
 subst ha
 unfold Scu.hearWant Scu.giveOut
 simp only
 rw [if_neg h]
 split <;> rfl
structure WanI (w:World) (base gw gr:Nat) (r:Scu.Replica) (m:Scu.Message) (A:Option Addr) (n c:Nat) (ms:List Scu.Message) (gm:Nat) (wr:World):Prop where
 work:WorkE wr base gw gr (Scu.wantIf r m.view).1 (ms ++ (Scu.wantIf r m.view).2)
 box:Blk wr gm 43 #[.int .i64 m.kind,.int .i64 m.from_,.int .i64 m.tq,.int .i64 m.view,.int .i64 m.normal,.int .i64 m.commit,.int .i64 m.n,.slice A n c]
 low:Below base w wr
theorem zKf (w:World) (base gw gr:Nat) (r:Scu.Replica) (m:Scu.Message) (A:Option Addr) (n c:Nat) (ms:List Scu.Message) (hW:WorkE w base gw gr r ms) (Hb:base<=w.heap.size) (h3:Rep3 r) (Ki:0<=r.kept.view) (Hy:0<=m.from_) (Hz:m.from_ < 3) (hm:(ms.length+8)*80<=R47) :
 Calls Tryd.prog 27 #[.pointer (some ⟨gw,0,none⟩),.agg #[.int .i64 m.kind,.int .i64 m.from_,.int .i64 m.tq,.int .i64 m.view,.int .i64 m.normal,.int .i64 m.commit,.int .i64 m.n,.slice A n c]] w fun e w'=>e=.returned (.tuple #[])/\WorkE w' base gw gr (Scu.hearWant r m).1 (ms ++ (Scu.hearWant r m).2)/\Below base w w':=by
 obtain ⟨lu,hv,wv,gv,nv,ov,css,hW⟩:=hW
 have HW:=mA hW
 have H3:=mA h3
 have HM:=mA hm
 have Hk:=mA (mB Hy Hz)
 clear hW h3 hm Hy Hz
 go_enter Tryd.func27,Tryd.ntmps27
 go_upto_region 1 with fail
 obtain ⟨Wd,Ka⟩:=mJ (w.alloc (.cells (mN m A n c) 43))
 rw [<- Ka]
 have Kb:Below w.heap.size w Wd:=by rw [Ka];exact zAa _ _
 have hk:Blk Wd w.heap.size 43 (mN m A n c):=by rw [Ka];exact Blk.new _ _ _
 have Hg:=mA (mB (HW.out.below Kb) (mB hk (Kb.mono Hb)))
 have Ko:base<=Wd.heap.size:=mD Hb Kb.size
 have Kl:=mA (show ov.ownBlock≠some w.heap.size from fun e=>by have:=(HW.out.out.row.lt _ e).2;omega)
 clear Ka Kb hk
 have d0:=cz1 Hg.out.1.wb
 obtain ⟨-,d1⟩:=cz2 Hg.out.1.rb
 obtain ⟨-,-,-,k3⟩:=cz4 Hg.out.2.1
 have dl:=Hg.out.1.wb.lt
 have dm:=Hg.out.1.rb.lt
 have dk:=Hg.out.2.1.lt
 by_cases Hi:r.kept.view < m.view
 ·have Hn:Scu.wantIf r m.view=Scu.want r m.view:=if_pos Hi
  have Kc:=mA Hn
  clear Hn
  go_wp2_with fail
  go_region
  go_upto_region 2 with fail
  obtain ⟨We,Kd⟩:=mJ (Wd.drew)
  rw [<- Kd]
  have Ho:=mA (show Work We base gw gr r lu hv wv gv nv ov ms css/\Blk We w.heap.size 43 (mN m A n c)/\Below base w We from by rw [Kd];exact ⟨Hg.out.1.below (mG _ _).drew,Hg.out.2.1,Hg.out.2.2.drew⟩)
  clear Kd d0 d1 k3 dl dm dk Hi
  obtain ⟨-,-,-,k3⟩:=cz4 Ho.out.2.1
  go_wp2_with fail
  refine (zIo We base gw gr r m.view lu hv wv gv nv ov ms css Ho.out.1 (mD Hb Ho.out.2.2.size) H3.out (mD (Nat.mul_le_mul_right 80 (by omega)) HM.out)).mono ?_;rintro en wt ⟨rfl,⟨_,_,_,_,_,ov',_,Kj,hF⟩,Kk⟩
  have HT:=mA (show WanI w base gw gr r m A n c ms w.heap.size wt from ⟨by rw [Kc.out];exact Kj.e,(hF _ _ Ho.out.2.1 Kl.out).1,Ho.out.2.2.trans Kk⟩)
  clear Kj hF Kk k3
  obtain ⟨aa,He⟩:=mJ (Scu.wantIf r m.view)
  have Hp:=HT.out.work
  have Hq:Rep3 aa.1:=by rw [He];exact wantIf3 H3.out m.view
  have Hr:0<=aa.1.kept.view:=by rw [He];exact zBi r m.view Ki
  have Hs:(ms ++ aa.2).length<=ms.length+3:=by rw [List.length_append,He];have:=zCh r m.view;omega
  rw [<- He] at Hp
  have HA:=mA (mB He.symm (mB Hq (mB Hr Hs)))
  clear He Hq Hr Hs
  obtain ⟨lu5,Km,wv5,gv5,nv5,ov5,css5,Hd⟩:=Hp
  obtain ⟨g2,c2,Ke⟩:=ones3f Hd.own.own.wants HA.out.2.1.2.1
  subst Ke
  have Kn:base<=wt.heap.size:=mD Hb HT.out.low.size
  have d0:=cz1 Hd.wb
  obtain ⟨-,-,-,d3,-,-,-,d7⟩:=cz8 Hd.rb
  obtain ⟨-,k1⟩:=cz2 HT.out.box
  have dl:=Hd.wb.lt
  have dm:=Hd.rb.lt
  have dk:=HT.out.box.lt
  cases Hf:aa.1.kept.calm with
  | true =>
    have Ha:=zCi HA.out.1 (.inl Hf)
    rw [Hf] at d3
    have Hc:=mA Ha
    have Hj:=mA Hd
    clear Ha Hd Hf
    go_wp2_with fail
    go_region
    go_wp2
    refine bodyPost_ret (v:=.tuple #[]) (by simp [results,Tryd.results27]) rfl ?_
    rw [Hc.out]
    exact ⟨rfl,(Hj.out.below (mG _ _).drew).e,HT.out.low.drew⟩
  | false =>
    rw [Hf] at d3
    obtain ⟨Ht,⟨cur,hB⟩,Kf,Hu,Hv⟩:=ones3' Hd.own.own.wants HA.out.2.1.2.1
    obtain ⟨b,hb⟩:=mJ (aa.1.wants.getD m.from_.toNat false)
    have dw:wt.cell? ⟨g2,m.from_.toNat,none⟩=some (.bool b):=by
     have Hi:m.from_.toNat < aa.1.wants.length:=by rw [HA.out.2.1.2.1];have:=Hk.out;omega
     rw [Hv _ (by have:=Hk.out;omega),List.getElem?_map,mH Hi,hb,mI,mH Hi]
     rfl
    have dz:=Hu m.from_.toNat
    have Hh:=mA (mB hB (mB Ht (mB hb Hf)))
    have Hj:=mA Hd
    have Hy:=Hk.out.1
    have Hz:=Hk.out.2
    clear Hv Kf Hu hB Ht hb Hd Hf
    cases b with
    | true =>
      have Ha:=zCi HA.out.1 (.inr Hh.out.2.2.1.symm)
      have Hc:=mA Ha
      clear Ha
      go_wp2_with fail
      go_region
      go_wp2
      refine bodyPost_ret (v:=.tuple #[]) (by simp [results,Tryd.results27]) rfl ?_
      rw [Hc.out]
      exact ⟨rfl,(Hj.out.below (mG _ _).drew).e,HT.out.low.drew⟩
    | false =>
      have Ha:=zEr HA.out.1 (by rw [Hh.out.2.2.2,<- Hh.out.2.2.1];simp)
      have Hc:=mA Ha
      clear Ha
      go_wp2_with fail
      go_region
      go_wp2_with fail
      go_region
      obtain ⟨W3,Hl⟩:=mJ ((wt.setCell ⟨g2,m.from_.toNat,none⟩ (.bool true)).drew.drew)
      rw [<- Hl]
      have Hm:=mA (show WorkE W3 base gw gr { aa.1 with wants:=aa.1.wants.set m.from_.toNat true } (ms ++ aa.2)/\Below base w W3 from by
       obtain ⟨a1,a2,_⟩:=Hj.out.put_wants Hh.out.1 Hh.out.2.1 m.from_.toNat true
       rw [Hl]
       exact ⟨(a1.below (mG _ _).drew.drew).e,(HT.out.low.trans a2).drew.drew⟩)
      clear Hl d0 d3 d7 k1 dl dm dk dw dz
      have Kg:base<=W3.heap.size:=mD Hb Hm.out.2.size
      go_wp2_with fail
      refine (zKw W3 base gw gr _ (ms ++ aa.2) Hm.out.1 Kg (show Rep3 { aa.1 with wants:=aa.1.wants.set m.from_.toNat true } from ⟨HA.out.2.1.1,by simp [HA.out.2.1.2.1],HA.out.2.1.2.2⟩) HA.out.2.2.1 (mD (Nat.mul_le_mul_right 80 (by have:=HA.out.2.2.2;omega)) HM.out)).mono ?_;rintro en w4 ⟨rfl,Hw,Hx⟩
      have HX:=mA (mB Hw (Hm.out.2.trans Hx))
      clear Hw Hx
      rename_i KK hKK
      refine hKK _ _ ?_
      dsimp only [wpList]
      go_end0
      rw [Hc.out]
      refine ⟨rfl,?_,HX.out.2⟩
      rw [<- List.append_assoc]
      exact HX.out.1
 have Hn:Scu.wantIf r m.view=(r,[]):=if_neg Hi
 have Kc:=mA Hn
 clear Hn
 go_wp2_with fail
 go_region
 go_upto_region 3 with fail
 obtain ⟨wt,Kh⟩:=mJ (Wd.drew)
 rw [<- Kh]
 have HT:=mA (show WanI w base gw gr r m A n c ms w.heap.size wt from by rw [Kh];exact ⟨by rw [Kc.out,List.append_nil];exact (Hg.out.1.below (mG _ _).drew).e,Hg.out.2.1,Hg.out.2.2.drew⟩)
 clear Kh d0 d1 k3 dl dm dk Hi
 obtain ⟨aa,He⟩:=mJ (Scu.wantIf r m.view)
 have Hp:=HT.out.work
 have Hq:Rep3 aa.1:=by rw [He];exact wantIf3 H3.out m.view
 have Hr:0<=aa.1.kept.view:=by rw [He];exact zBi r m.view Ki
 have Hs:(ms ++ aa.2).length<=ms.length+3:=by rw [List.length_append,He];have:=zCh r m.view;omega
 rw [<- He] at Hp
 have HA:=mA (mB He.symm (mB Hq (mB Hr Hs)))
 clear He Hq Hr Hs
 obtain ⟨lu5,Km,wv5,gv5,nv5,ov5,css5,Hd⟩:=Hp
 obtain ⟨g2,c2,Ke⟩:=ones3f Hd.own.own.wants HA.out.2.1.2.1
 subst Ke
 have Kn:base<=wt.heap.size:=mD Hb HT.out.low.size
 have d0:=cz1 Hd.wb
 obtain ⟨-,-,-,d3,-,-,-,d7⟩:=cz8 Hd.rb
 obtain ⟨-,k1⟩:=cz2 HT.out.box
 have dl:=Hd.wb.lt
 have dm:=Hd.rb.lt
 have dk:=HT.out.box.lt
 cases Hf:aa.1.kept.calm with
 | true =>
   have Ha:=zCi HA.out.1 (.inl Hf)
   rw [Hf] at d3
   have Hc:=mA Ha
   have Hj:=mA Hd
   clear Ha Hd Hf
   go_wp2_with fail
   go_region
   go_wp2
   refine bodyPost_ret (v:=.tuple #[]) (by simp [results,Tryd.results27]) rfl ?_
   rw [Hc.out]
   exact ⟨rfl,(Hj.out.below (mG _ _).drew).e,HT.out.low.drew⟩
 | false =>
   rw [Hf] at d3
   obtain ⟨Ht,⟨cur,hB⟩,Kf,Hu,Hv⟩:=ones3' Hd.own.own.wants HA.out.2.1.2.1
   obtain ⟨b,hb⟩:=mJ (aa.1.wants.getD m.from_.toNat false)
   have dw:wt.cell? ⟨g2,m.from_.toNat,none⟩=some (.bool b):=by
    have Hi:m.from_.toNat < aa.1.wants.length:=by rw [HA.out.2.1.2.1];have:=Hk.out;omega
    rw [Hv _ (by have:=Hk.out;omega),List.getElem?_map,mH Hi,hb,mI,mH Hi]
    rfl
   have dz:=Hu m.from_.toNat
   have Hh:=mA (mB hB (mB Ht (mB hb Hf)))
   have Hj:=mA Hd
   have Hy:=Hk.out.1
   have Hz:=Hk.out.2
   clear Hv Kf Hu hB Ht hb Hd Hf
   cases b with
   | true =>
     have Ha:=zCi HA.out.1 (.inr Hh.out.2.2.1.symm)
     have Hc:=mA Ha
     clear Ha
     go_wp2_with fail
     go_region
     go_wp2
     refine bodyPost_ret (v:=.tuple #[]) (by simp [results,Tryd.results27]) rfl ?_
     rw [Hc.out]
     exact ⟨rfl,(Hj.out.below (mG _ _).drew).e,HT.out.low.drew⟩
   | false =>
     have Ha:=zEr HA.out.1 (by rw [Hh.out.2.2.2,<- Hh.out.2.2.1];simp)
     have Hc:=mA Ha
     clear Ha
     go_wp2_with fail
     go_region
     go_wp2_with fail
     go_region
     obtain ⟨W3,Hl⟩:=mJ ((wt.setCell ⟨g2,m.from_.toNat,none⟩ (.bool true)).drew.drew)
     rw [<- Hl]
     have Hm:=mA (show WorkE W3 base gw gr { aa.1 with wants:=aa.1.wants.set m.from_.toNat true } (ms ++ aa.2)/\Below base w W3 from by
      obtain ⟨a1,a2,_⟩:=Hj.out.put_wants Hh.out.1 Hh.out.2.1 m.from_.toNat true
      rw [Hl]
      exact ⟨(a1.below (mG _ _).drew.drew).e,(HT.out.low.trans a2).drew.drew⟩)
     clear Hl d0 d3 d7 k1 dl dm dk dw dz
     have Kg:base<=W3.heap.size:=mD Hb Hm.out.2.size
     go_wp2_with fail
     refine (zKw W3 base gw gr _ (ms ++ aa.2) Hm.out.1 Kg (show Rep3 { aa.1 with wants:=aa.1.wants.set m.from_.toNat true } from ⟨HA.out.2.1.1,by simp [HA.out.2.1.2.1],HA.out.2.1.2.2⟩) HA.out.2.2.1 (mD (Nat.mul_le_mul_right 80 (by have:=HA.out.2.2.2;omega)) HM.out)).mono ?_;rintro en w4 ⟨rfl,Hw,Hx⟩
     have HX:=mA (mB Hw (Hm.out.2.trans Hx))
     clear Hw Hx
     rename_i KK hKK
     refine hKK _ _ ?_
     dsimp only [wpList]
     go_end0
     rw [Hc.out]
     refine ⟨rfl,?_,HX.out.2⟩
     rw [<- List.append_assoc]
     exact HX.out.1
def Scu.selfGive (r:Scu.Replica):Scu.Replica:=if r.given.getD r.me.toNat false=false then Scu.give1 r r.me r.kept else r
theorem zEs {r:Scu.Replica} {m:Scu.Message} {a:Scu.Replica × List Scu.Message} (ha:Scu.wantIf r m.view=a) (h:a.1.kept.calm=true):Scu.hearGive r m=a:=by
 subst ha
 unfold Scu.hearGive
 exact if_pos h
theorem zEt {r:Scu.Replica} {m:Scu.Message} {a:Scu.Replica × List Scu.Message} (ha:Scu.wantIf r m.view=a) (h:¬ a.1.kept.calm=true) {g:Scu.Replica} (hg:Scu.selfGive a.1=g) :
 Scu.hearGive r m=((Scu.take1 g m.from_ ⟨m.view,m.normal,false,m.log,m.commit⟩).1,a.2 ++ (Scu.take1 g m.from_ ⟨m.view,m.normal,false,m.log,m.commit⟩).2):=by
 subst ha
 subst hg
 unfold Scu.hearGive Scu.selfGive
 simp only
 rw [if_neg h]
theorem selfGive3 {r:Scu.Replica} (h:Rep3 r):Rep3 (Scu.selfGive r):=by
 unfold Scu.selfGive
 split
 ·exact ⟨h.1,h.2.1,by simp [Scu.give1,h.2.2.1],by simp [Scu.give1,h.2.2.2.1],h.2.2.2.2⟩
 exact h
structure GvmI (w:World) (base gw gr:Nat) (g:Scu.Replica) (m:Scu.Message) (A:Option Addr) (c:Nat) (ms:List Scu.Message) (gm:Nat) (wr:World):Prop where
 work:WorkE wr base gw gr g ms
 box:Blk wr gm 43 #[.int .i64 m.kind,.int .i64 m.from_,.int .i64 m.tq,.int .i64 m.view,.int .i64 m.normal,.int .i64 m.commit,.int .i64 m.n,.slice A m.log.length c]
 low:Below base w wr
theorem zKg (w:World) (base gw gr:Nat) (r:Scu.Replica) (m:Scu.Message) (A:Option Addr) (c:Nat) (ms:List Scu.Message) (hW:WorkE w base gw gr r ms) (Ha:base<=w.heap.size) (h3:Rep3 r) (Kz:0<=r.kept.view) (Va:0<=m.from_) (Vb:m.from_ < 3) (hx:LowStrs w base (.slice A m.log.length c) m.log) (hm:(ms.length+8)*80<=R47) :
 Calls Tryd.prog 28 #[.pointer (some ⟨gw,0,none⟩),.agg #[.int .i64 m.kind,.int .i64 m.from_,.int .i64 m.tq,.int .i64 m.view,.int .i64 m.normal,.int .i64 m.commit,.int .i64 m.n,.slice A m.log.length c]] w fun e w'=>e=.returned (.tuple #[])/\WorkE w' base gw gr (Scu.hearGive r m).1 (ms ++ (Scu.hearGive r m).2)/\Below base w w':=by
 obtain ⟨lu,hv,wv,gv,nv,ov,css,hW⟩:=hW
 have HW:=mA hW
 have H3:=mA h3
 have HM:=mA hm
 have HX:=mA hx
 have Hw:=mA (mB Va Vb)
 clear hW h3 hm Va Vb hx
 go_enter Tryd.func28,Tryd.ntmps28
 go_upto_region 1 with fail
 obtain ⟨Wd,Kk⟩:=mJ (w.alloc (.cells (mN m A m.log.length c) 43))
 rw [<- Kk]
 have Kl:Below w.heap.size w Wd:=by rw [Kk];exact zAa _ _
 have hk:Blk Wd w.heap.size 43 (mN m A m.log.length c):=by rw [Kk];exact Blk.new _ _ _
 have Hn:=mA (mB (HW.out.below Kl) (mB hk (Kl.mono Ha)))
 have Vh:base<=Wd.heap.size:=mD Ha Kl.size
 have Ve:=mA (show ov.ownBlock≠some w.heap.size from fun e=>by have:=(HW.out.out.row.lt _ e).2;omega)
 clear Kk Kl hk
 have d0:=cz1 Hn.out.1.wb
 obtain ⟨-,d1⟩:=cz2 Hn.out.1.rb
 obtain ⟨-,-,-,k3⟩:=cz4 Hn.out.2.1
 have dl:=Hn.out.1.wb.lt
 have dm:=Hn.out.1.rb.lt
 have dk:=Hn.out.2.1.lt
 by_cases Ht:r.kept.view < m.view
 ·have Ka:Scu.wantIf r m.view=Scu.want r m.view:=if_pos Ht
  have Km:=mA Ka
  clear Ka
  go_wp2_with fail
  go_region
  go_upto_region 2 with fail
  obtain ⟨We,Hk⟩:=mJ (Wd.drew)
  rw [<- Hk]
  have Hg:=mA (show Work We base gw gr r lu hv wv gv nv ov ms css/\Blk We w.heap.size 43 (mN m A m.log.length c)/\Below base w We from by rw [Hk];exact ⟨Hn.out.1.below (mG _ _).drew,Hn.out.2.1,Hn.out.2.2.drew⟩)
  clear Hk d0 d1 k3 dl dm dk Ht
  obtain ⟨-,-,-,k3⟩:=cz4 Hg.out.2.1
  go_wp2_with fail
  refine (zIo We base gw gr r m.view lu hv wv gv nv ov ms css Hg.out.1 (mD Ha Hg.out.2.2.size) H3.out (mD (Nat.mul_le_mul_right 80 (by omega)) HM.out)).mono ?_;rintro en wt ⟨rfl,⟨_,_,_,_,_,ov',_,Vc,hF⟩,Vd⟩
  have HT:=mA (show GvmI w base gw gr (Scu.wantIf r m.view).1 m A c (ms ++ (Scu.wantIf r m.view).2) w.heap.size wt from ⟨by rw [Km.out];exact Vc.e,(hF _ _ Hg.out.2.1 Ve.out).1,Hg.out.2.2.trans Vd⟩)
  clear Vc hF Vd k3
  obtain ⟨aa,Hl⟩:=mJ (Scu.wantIf r m.view)
  have Kb:=HT.out.work
  have Kc:Rep3 aa.1:=by rw [Hl];exact wantIf3 H3.out m.view
  have Kd:0<=aa.1.kept.view:=by rw [Hl];exact zBi r m.view Kz
  have Ke:(ms ++ aa.2).length<=ms.length+3:=by rw [List.length_append,Hl];have:=zCh r m.view;omega
  rw [<- Hl] at Kb
  have HA:=mA (mB Hl.symm (mB Kc (mB Kd Ke)))
  clear Hl Kc Kd Ke
  obtain ⟨lu5,Vf,wv5,gv5,nv5,ov5,css5,Hb⟩:=Kb
  obtain ⟨A5,n5,c5,Kn⟩:=Hb.own.is.log.form
  subst Kn
  obtain ⟨gn,cn,Ko⟩:=ones3f Hb.own.own.given HA.out.2.1.2.2.2.1
  subst Ko
  obtain ⟨gk,cg,Kp⟩:∃ g c,gv5=.slice (some ⟨g,0,none⟩) 3 c:=by
   obtain ⟨kss,He⟩:=Hb.own.giv
   have h:=He.row
   rw [HA.out.2.1.2.2.1] at h
   obtain ⟨hl,⟨h0,hn⟩ | ⟨g',cap,cur,e1,_⟩⟩:=h
   ·omega
   exact ⟨g',cap,e1⟩
  subst Kp
  have Kf:base<=wt.heap.size:=mD Ha HT.out.low.size
  have Kq:0<=aa.1.me:=HA.out.2.1.2.2.2.2.1
  have Kr:aa.1.me < 3:=HA.out.2.1.2.2.2.2.2
  have d0:=cz1 Hb.wb
  obtain ⟨dr0,d1,d2,d3,d4,d5,-,-,-,d9⟩:=cz10 Hb.rb
  have dl:=Hb.wb.lt
  have dm:=Hb.rb.lt
  have Hx:=mA (selfGive3 HA.out.2.1)
  cases Hh:aa.1.kept.calm with
  | true =>
    have Hd:=zEs HA.out.1 Hh
    rw [Hh] at d3
    have Hf:=mA Hd
    have Hc:=mA Hb
    clear Hd Hb Hh
    go_wp2
    refine bodyPost_ret (v:=.tuple #[]) (by simp [results,Tryd.results28]) rfl ?_
    rw [Hf.out]
    exact ⟨rfl,Hc.out.e,HT.out.low⟩
  | false =>
    rw [Hh] at d3
    obtain ⟨Ks,⟨cur,hB⟩,Kt,Ku,Kg⟩:=ones3' Hb.own.own.given HA.out.2.1.2.2.2.1
    obtain ⟨b,hb⟩:=mJ (aa.1.given.getD aa.1.me.toNat false)
    have dw:wt.cell? ⟨gn,aa.1.me.toNat,none⟩=some (.bool b):=by
     have Ht:aa.1.me.toNat < aa.1.given.length:=by rw [HA.out.2.1.2.2.2.1];omega
     rw [Kg _ (by omega),List.getElem?_map,mH Ht,hb,mI,mH Ht]
     rfl
    have Kh:=mA (mB hb Hh)
    have Hc:=mA Hb
    clear Kg Kt Ku hB Ks hb Hb
    obtain ⟨gg,Hu⟩:=mK (Scu.selfGive aa.1)
    have Hd:=zEt HA.out.1 (by rw [Hh];decide) Hu
    rw [Hu] at Hx
    have Hf:=mA Hd
    have Ki:=mA Hu
    clear Hd Hh Hu
    cases b with
    | true =>
      have Ho:gg=aa.1:=by
       rw [<- Ki.out]
       unfold Scu.selfGive
       rw [<- Kh.out.1,if_neg (by decide)]
      have Hy:=mA Ho
      clear Ho
      go_wp2_with fail
      go_region
      go_upto_region 7 with fail
      obtain ⟨wq,Hi⟩:=mJ (wt.drew)
      rw [<- Hi]
      have HQ:=mA (show GvmI w base gw gr gg m A c (ms ++ aa.2) w.heap.size wq from by rw [Hi,Hy.out];exact ⟨(Hc.out.below (mG _ _).drew).e,HT.out.box,HT.out.low.drew⟩)
      clear Hi d0 dr0 d1 d2 d3 d4 d5 d9 dl dm dw
      have Hp:base<=wq.heap.size:=mD Ha HQ.out.low.size
      obtain ⟨-,k1,-,k3,k4,k5,-,k7⟩:=cz8 HQ.out.box
      have dk:=HQ.out.box.lt
      go_wp2_with fail
      have H:=zFr wq base gw gr gg m.from_ ⟨m.view,m.normal,false,m.log,m.commit⟩ A m.log.length c (ms ++ aa.2) HQ.out.work Hp Hx.out Hw.out.1 Hw.out.2 (show IsStrs wq base (.slice A m.log.length c) m.log from (HX.out.keep HQ.out.low).is Hp) (mD (Nat.mul_le_mul_right 80 (by have:=HA.out.2.2.2;omega)) HM.out)
      refine H.mono ?_
      clear H
      rintro en w4 ⟨rfl,Hq,Hr⟩
      have HZ:=mA (mB Hq (HQ.out.low.trans Hr))
      clear Hq Hr
      rename_i KK hKK
      refine hKK _ _ ?_
      dsimp only [wpList]
      go_end0
      rw [Hf.out]
      refine ⟨rfl,?_,HZ.out.2⟩
      rw [<- List.append_assoc]
      exact HZ.out.1
    | false =>
      have Ho:gg=Scu.give1 aa.1 aa.1.me aa.1.kept:=by
       rw [<- Ki.out]
       unfold Scu.selfGive
       rw [<- Kh.out.1,if_pos rfl]
      have Hy:=mA Ho
      clear Ho
      go_wp2_with fail
      go_region
      go_upto_region 6 with fail
      obtain ⟨We,Hk⟩:=mJ ((wt.alloc (.cells #[.int .i64 aa.1.kept.view,.int .i64 aa.1.kept.normal,.bool false,.slice A5 n5 c5,.int .i64 aa.1.kept.commit] 25)).drew)
      rw [<- Hk]
      have Hz:Below wt.heap.size wt We:=by rw [Hk];exact (zAa _ _).drew
      have hk:Blk We wt.heap.size 25 #[.int .i64 aa.1.kept.view,.int .i64 aa.1.kept.normal,.bool false,.slice A5 n5 c5,.int .i64 aa.1.kept.commit]:=by rw [Hk];exact (Blk.new _ _ _).drew
      have Hm:=Hc.out.below Hz
      obtain ⟨kss,He⟩:=Hc.out.own.giv
      obtain ⟨_,kcur,Hj⟩:=zAx He.row
      obtain ⟨_,⟨ncur,Hs⟩,_⟩:=ones3' Hc.out.own.own.given HA.out.2.1.2.2.2.1
      have n1:gw≠gk:=zAv Hc.out.wb Hj (by decide)
      have n2:gr≠gk:=zAv Hc.out.rb Hj (by decide)
      have n3:wt.heap.size≠gk:=by have:=Hj.lt;omega
      have n4:gw≠gn:=zAv Hc.out.wb Hs (by decide)
      have n5':gr≠gn:=zAv Hc.out.rb Hs (by decide)
      have n6:wt.heap.size≠gn:=by have:=Hs.lt;omega
      have n7:gn≠gk:=zAv Hs Hj (by decide)
      clear He Hj Hs Hk d0 dr0 d1 d2 d3 d4 d5 d9 dl dm dw
      have d0:=cz1 Hm.wb
      obtain ⟨dr0,-,-,-,-,-,-,-,d8,d9⟩:=cz10 Hm.rb
      obtain ⟨k0,k1,-,k3,k4⟩:=cz5 hk
      have dl:=Hm.wb.lt
      have dm:=Hm.rb.lt
      have dk:=hk.lt
      have Hg:=mA (mB Hm (mB hk Hz))
      clear Hm hk Hz
      go_wp2_with fail
      go_region_held3 (fun w'=>w'.cell? ⟨gw,0,none⟩=some (.pointer (some ⟨gr,0,none⟩))/\w'.cell? ⟨gr,0,none⟩=some (.int .i64 aa.1.me)/\w'.cell? ⟨gr,8,none⟩=some (.slice (some ⟨gk,0,none⟩) 3 cg)/\w'.cell? ⟨gr,9,none⟩=some (.slice (some ⟨gn,0,none⟩) 3 cn)/\w'.cell? ⟨wt.heap.size,0,none⟩=some (.int .i64 aa.1.kept.view)/\w'.cell? ⟨wt.heap.size,1,none⟩=some (.int .i64 aa.1.kept.normal)/\w'.cell? ⟨wt.heap.size,3,none⟩=some (.slice A5 n5 c5)/\w'.cell? ⟨wt.heap.size,4,none⟩=some (.int .i64 aa.1.kept.commit))
       (first | (go_split_ands;(try dsimp only);(repeat' apply mB) <;> first | (with_reducible assumption) | (with_reducible (refine (zBp ?_ _).trans ((zAq ?_).trans ?_) <;> assumption)) | (with_reducible (refine (zAq ?_).trans ?_ <;> assumption))) | (go_split_ands;(try dsimp only);exact ⟨d0,dr0,d8,d9,k0,k1,k3,k4⟩))
       (first
        | (go_at_call 31;refine (zAo _ aa.1.kept.log _ 0 ?_).mono ?_;exact Hg.out.1.own.is.log.drewN 1;rintro en x1 ⟨⟨v1,rfl,hu⟩,k1'⟩
           refine use (P:=Below We.heap.size We x1) ?_ ?_
           exact (below_drewN (mG _ _) 1).trans k1'
           intro nn1
           have M1:=mA nn1
           obtain ⟨Au,cu,rfl,_,_,_,_⟩:=zAk hu
           have HU:=mA hu
           have Hv:=Hg.out.1.below nn1
           obtain ⟨kss,He⟩:=Hv.own.giv
           have Vg:aa.1.gives.length=3:=HA.out.2.1.2.2.1
           obtain ⟨gz,lg,y0,y1,y2,y3,y4,_⟩:=He.cells (i:=aa.1.me.toNat) (by omega)
           obtain ⟨_,_,hc,nz,_⟩:=ones3' Hv.own.own.given HA.out.2.1.2.2.2.1
           obtain ⟨un,yn⟩:=Option.isSome_iff_exists.1 (hc aa.1.me.toNat (by omega))
           have Kj:=mA Hv
           have yn5:(((((x1.setCell ⟨gk,aa.1.me.toNat*5,none⟩ (.int .i64 aa.1.kept.view)).setCell ⟨gk,aa.1.me.toNat*5+1,none⟩ (.int .i64 aa.1.kept.normal)).setCell ⟨gk,aa.1.me.toNat*5+2,none⟩ (.bool false)).setCell ⟨gk,aa.1.me.toNat*5+3,none⟩ (.slice Au aa.1.kept.log.length cu)).setCell ⟨gk,aa.1.me.toNat*5+4,none⟩ (.int .i64 aa.1.kept.commit)).cell? ⟨gn,aa.1.me.toNat,none⟩=some un:=(zAq n7).trans yn
           have e0:=cW nn1 dl d0
           have er0:=cW nn1 dm dr0
           have e8:=cW nn1 dm d8
           have e9:=cW nn1 dm d9
           have b0:=cW nn1 dk k0
           have b1:=cW nn1 dk k1
           have b3:=cW nn1 dk k3
           have b4:=cW nn1 dk k4
           clear nn1 hu k1' He hc Hv))
      all_goals
       rename_i hHeld
       clear hHeld
       obtain ⟨wq,Hi⟩:=mJ ((((((x1.setCell ⟨gk,aa.1.me.toNat*5,none⟩ (.int .i64 aa.1.kept.view)).setCell ⟨gk,aa.1.me.toNat*5+1,none⟩ (.int .i64 aa.1.kept.normal)).setCell ⟨gk,aa.1.me.toNat*5+2,none⟩ (.bool false)).setCell ⟨gk,aa.1.me.toNat*5+3,none⟩ (.slice Au aa.1.kept.log.length cu)).setCell ⟨gk,aa.1.me.toNat*5+4,none⟩ (.int .i64 aa.1.kept.commit)).setCell ⟨gn,aa.1.me.toNat,none⟩ (.bool true))
       rw [<- Hi]
       have HQ:=mA (show GvmI w base gw gr gg m A c (ms ++ aa.2) w.heap.size wq from by
        have Kv:IsStrs x1 0 (.slice Au aa.1.kept.log.length cu) (Scu.own aa.1.kept).log:=zBx HU.out Hc.out.own.is.log.len Hc.out.own.is.log.each
        obtain ⟨a1,a2⟩:=Kj.out.put_gives (i:=aa.1.me.toNat) (by omega) Kv
        obtain ⟨hb,cur,hB⟩:=zAx a1.own.own.given.1
        obtain ⟨c1,c2,_⟩:=a1.put_given hB hb aa.1.me.toNat true
        obtain ⟨kss,He⟩:=Kj.out.own.giv
        obtain ⟨_,kcur,Hj⟩:=zAx He.row
        have Kw:=(HT.out.box.same Hg.out.2.2).same M1.out
        have Kx:=Same.set_ (Ts:=[43]) hB (mE _) (by decide) aa.1.me.toNat (.bool true)
        rw [Hi,Hy.out]
        exact ⟨c1.e,zAd (zAd Kw (Same.set5 (Ts:=[43]) Hj (by decide) _ _ _ _ _ _ _ _ _ _) (by simp)) Kx (by simp),(((HT.out.low.trans (Hg.out.2.2.mono Kf)).trans (M1.out.mono (mD Kf Hg.out.2.2.size))).trans a2).trans c2⟩)
       clear Hi yn5 e0 er0 e8 e9 b0 b1 b3 b4 gz y0 y1 y2 y3 y4 nz yn d0 dr0 d8 d9 k0 k1 k3 k4 dl dm dk
       have Hp:base<=wq.heap.size:=mD Ha HQ.out.low.size
       obtain ⟨-,k1,-,k3,k4,k5,-,k7⟩:=cz8 HQ.out.box
       have dk:=HQ.out.box.lt
       go_wp2_with fail
       have H:=zFr wq base gw gr gg m.from_ ⟨m.view,m.normal,false,m.log,m.commit⟩ A m.log.length c (ms ++ aa.2) HQ.out.work Hp Hx.out Hw.out.1 Hw.out.2 (show IsStrs wq base (.slice A m.log.length c) m.log from (HX.out.keep HQ.out.low).is Hp) (mD (Nat.mul_le_mul_right 80 (by have:=HA.out.2.2.2;omega)) HM.out)
       refine H.mono ?_
       clear H
       rintro en w4 ⟨rfl,Hq,Hr⟩
       have HZ:=mA (mB Hq (HQ.out.low.trans Hr))
       clear Hq Hr
       rename_i KK hKK
       refine hKK _ _ ?_
       dsimp only [wpList]
       go_end0
       rw [Hf.out]
       refine ⟨rfl,?_,HZ.out.2⟩
       rw [<- List.append_assoc]
       exact HZ.out.1
 have Ka:Scu.wantIf r m.view=(r,[]):=if_neg Ht
 have Km:=mA Ka
 clear Ka
 go_wp2_with fail
 go_region
 go_upto_region 3 with fail
 obtain ⟨wt,Ky⟩:=mJ (Wd.drew)
 rw [<- Ky]
 have HT:=mA (show GvmI w base gw gr (Scu.wantIf r m.view).1 m A c (ms ++ (Scu.wantIf r m.view).2) w.heap.size wt from by rw [Ky];exact ⟨by rw [Km.out,List.append_nil];exact (Hn.out.1.below (mG _ _).drew).e,Hn.out.2.1,Hn.out.2.2.drew⟩)
 clear Ky d0 d1 k3 dl dm dk Ht
 obtain ⟨aa,Hl⟩:=mJ (Scu.wantIf r m.view)
 have Kb:=HT.out.work
 have Kc:Rep3 aa.1:=by rw [Hl];exact wantIf3 H3.out m.view
 have Kd:0<=aa.1.kept.view:=by rw [Hl];exact zBi r m.view Kz
 have Ke:(ms ++ aa.2).length<=ms.length+3:=by rw [List.length_append,Hl];have:=zCh r m.view;omega
 rw [<- Hl] at Kb
 have HA:=mA (mB Hl.symm (mB Kc (mB Kd Ke)))
 clear Hl Kc Kd Ke
 obtain ⟨lu5,Vf,wv5,gv5,nv5,ov5,css5,Hb⟩:=Kb
 obtain ⟨A5,n5,c5,Kn⟩:=Hb.own.is.log.form
 subst Kn
 obtain ⟨gn,cn,Ko⟩:=ones3f Hb.own.own.given HA.out.2.1.2.2.2.1
 subst Ko
 obtain ⟨gk,cg,Kp⟩:∃ g c,gv5=.slice (some ⟨g,0,none⟩) 3 c:=by
  obtain ⟨kss,He⟩:=Hb.own.giv
  have h:=He.row
  rw [HA.out.2.1.2.2.1] at h
  obtain ⟨hl,⟨h0,hn⟩ | ⟨g',cap,cur,e1,_⟩⟩:=h
  ·omega
  exact ⟨g',cap,e1⟩
 subst Kp
 have Kf:base<=wt.heap.size:=mD Ha HT.out.low.size
 have Kq:0<=aa.1.me:=HA.out.2.1.2.2.2.2.1
 have Kr:aa.1.me < 3:=HA.out.2.1.2.2.2.2.2
 have d0:=cz1 Hb.wb
 obtain ⟨dr0,d1,d2,d3,d4,d5,-,-,-,d9⟩:=cz10 Hb.rb
 have dl:=Hb.wb.lt
 have dm:=Hb.rb.lt
 have Hx:=mA (selfGive3 HA.out.2.1)
 cases Hh:aa.1.kept.calm with
 | true =>
   have Hd:=zEs HA.out.1 Hh
   rw [Hh] at d3
   have Hf:=mA Hd
   have Hc:=mA Hb
   clear Hd Hb Hh
   go_wp2
   refine bodyPost_ret (v:=.tuple #[]) (by simp [results,Tryd.results28]) rfl ?_
   rw [Hf.out]
   exact ⟨rfl,Hc.out.e,HT.out.low⟩
 | false =>
   rw [Hh] at d3
   obtain ⟨Ks,⟨cur,hB⟩,Kt,Ku,Kg⟩:=ones3' Hb.own.own.given HA.out.2.1.2.2.2.1
   obtain ⟨b,hb⟩:=mJ (aa.1.given.getD aa.1.me.toNat false)
   have dw:wt.cell? ⟨gn,aa.1.me.toNat,none⟩=some (.bool b):=by
    have Ht:aa.1.me.toNat < aa.1.given.length:=by rw [HA.out.2.1.2.2.2.1];omega
    rw [Kg _ (by omega),List.getElem?_map,mH Ht,hb,mI,mH Ht]
    rfl
   have Kh:=mA (mB hb Hh)
   have Hc:=mA Hb
   clear Kg Kt Ku hB Ks hb Hb
   obtain ⟨gg,Hu⟩:=mK (Scu.selfGive aa.1)
   have Hd:=zEt HA.out.1 (by rw [Hh];decide) Hu
   rw [Hu] at Hx
   have Hf:=mA Hd
   have Ki:=mA Hu
   clear Hd Hh Hu
   cases b with
   | true =>
     have Ho:gg=aa.1:=by
      rw [<- Ki.out]
      unfold Scu.selfGive
      rw [<- Kh.out.1,if_neg (by decide)]
     have Hy:=mA Ho
     clear Ho
     go_wp2_with fail
     go_region
     go_upto_region 7 with fail
     obtain ⟨wq,Hi⟩:=mJ (wt.drew)
     rw [<- Hi]
     have HQ:=mA (show GvmI w base gw gr gg m A c (ms ++ aa.2) w.heap.size wq from by rw [Hi,Hy.out];exact ⟨(Hc.out.below (mG _ _).drew).e,HT.out.box,HT.out.low.drew⟩)
     clear Hi d0 dr0 d1 d2 d3 d4 d5 d9 dl dm dw
     have Hp:base<=wq.heap.size:=mD Ha HQ.out.low.size
     obtain ⟨-,k1,-,k3,k4,k5,-,k7⟩:=cz8 HQ.out.box
     have dk:=HQ.out.box.lt
     go_wp2_with fail
     have H:=zFr wq base gw gr gg m.from_ ⟨m.view,m.normal,false,m.log,m.commit⟩ A m.log.length c (ms ++ aa.2) HQ.out.work Hp Hx.out Hw.out.1 Hw.out.2 (show IsStrs wq base (.slice A m.log.length c) m.log from (HX.out.keep HQ.out.low).is Hp) (mD (Nat.mul_le_mul_right 80 (by have:=HA.out.2.2.2;omega)) HM.out)
     refine H.mono ?_
     clear H
     rintro en w4 ⟨rfl,Hq,Hr⟩
     have HZ:=mA (mB Hq (HQ.out.low.trans Hr))
     clear Hq Hr
     rename_i KK hKK
     refine hKK _ _ ?_
     dsimp only [wpList]
     go_end0
     rw [Hf.out]
     refine ⟨rfl,?_,HZ.out.2⟩
     rw [<- List.append_assoc]
     exact HZ.out.1
   | false =>
     have Ho:gg=Scu.give1 aa.1 aa.1.me aa.1.kept:=by
      rw [<- Ki.out]
      unfold Scu.selfGive
      rw [<- Kh.out.1,if_pos rfl]
     have Hy:=mA Ho
     clear Ho
     go_wp2_with fail
     go_region
     go_upto_region 6 with fail
     obtain ⟨We,Hk⟩:=mJ ((wt.alloc (.cells #[.int .i64 aa.1.kept.view,.int .i64 aa.1.kept.normal,.bool false,.slice A5 n5 c5,.int .i64 aa.1.kept.commit] 25)).drew)
     rw [<- Hk]
     have Hz:Below wt.heap.size wt We:=by rw [Hk];exact (zAa _ _).drew
     have hk:Blk We wt.heap.size 25 #[.int .i64 aa.1.kept.view,.int .i64 aa.1.kept.normal,.bool false,.slice A5 n5 c5,.int .i64 aa.1.kept.commit]:=by rw [Hk];exact (Blk.new _ _ _).drew
     have Hm:=Hc.out.below Hz
     obtain ⟨kss,He⟩:=Hc.out.own.giv
     obtain ⟨_,kcur,Hj⟩:=zAx He.row
     obtain ⟨_,⟨ncur,Hs⟩,_⟩:=ones3' Hc.out.own.own.given HA.out.2.1.2.2.2.1
     have n1:gw≠gk:=zAv Hc.out.wb Hj (by decide)
     have n2:gr≠gk:=zAv Hc.out.rb Hj (by decide)
     have n3:wt.heap.size≠gk:=by have:=Hj.lt;omega
     have n4:gw≠gn:=zAv Hc.out.wb Hs (by decide)
     have n5':gr≠gn:=zAv Hc.out.rb Hs (by decide)
     have n6:wt.heap.size≠gn:=by have:=Hs.lt;omega
     have n7:gn≠gk:=zAv Hs Hj (by decide)
     clear He Hj Hs Hk d0 dr0 d1 d2 d3 d4 d5 d9 dl dm dw
     have d0:=cz1 Hm.wb
     obtain ⟨dr0,-,-,-,-,-,-,-,d8,d9⟩:=cz10 Hm.rb
     obtain ⟨k0,k1,-,k3,k4⟩:=cz5 hk
     have dl:=Hm.wb.lt
     have dm:=Hm.rb.lt
     have dk:=hk.lt
     have Hg:=mA (mB Hm (mB hk Hz))
     clear Hm hk Hz
     go_wp2_with fail
     go_region_held3 (fun w'=>w'.cell? ⟨gw,0,none⟩=some (.pointer (some ⟨gr,0,none⟩))/\w'.cell? ⟨gr,0,none⟩=some (.int .i64 aa.1.me)/\w'.cell? ⟨gr,8,none⟩=some (.slice (some ⟨gk,0,none⟩) 3 cg)/\w'.cell? ⟨gr,9,none⟩=some (.slice (some ⟨gn,0,none⟩) 3 cn)/\w'.cell? ⟨wt.heap.size,0,none⟩=some (.int .i64 aa.1.kept.view)/\w'.cell? ⟨wt.heap.size,1,none⟩=some (.int .i64 aa.1.kept.normal)/\w'.cell? ⟨wt.heap.size,3,none⟩=some (.slice A5 n5 c5)/\w'.cell? ⟨wt.heap.size,4,none⟩=some (.int .i64 aa.1.kept.commit))
      (first | (go_split_ands;(try dsimp only);(repeat' apply mB) <;> first | (with_reducible assumption) | (with_reducible (refine (zBp ?_ _).trans ((zAq ?_).trans ?_) <;> assumption)) | (with_reducible (refine (zAq ?_).trans ?_ <;> assumption))) | (go_split_ands;(try dsimp only);exact ⟨d0,dr0,d8,d9,k0,k1,k3,k4⟩))
      (first
       | (go_at_call 31;refine (zAo _ aa.1.kept.log _ 0 ?_).mono ?_;exact Hg.out.1.own.is.log.drewN 1;rintro en x1 ⟨⟨v1,rfl,hu⟩,k1'⟩
          refine use (P:=Below We.heap.size We x1) ?_ ?_
          exact (below_drewN (mG _ _) 1).trans k1'
          intro nn1
          have M1:=mA nn1
          obtain ⟨Au,cu,rfl,_,_,_,_⟩:=zAk hu
          have HU:=mA hu
          have Hv:=Hg.out.1.below nn1
          obtain ⟨kss,He⟩:=Hv.own.giv
          have Vg:aa.1.gives.length=3:=HA.out.2.1.2.2.1
          obtain ⟨gz,lg,y0,y1,y2,y3,y4,_⟩:=He.cells (i:=aa.1.me.toNat) (by omega)
          obtain ⟨_,_,hc,nz,_⟩:=ones3' Hv.own.own.given HA.out.2.1.2.2.2.1
          obtain ⟨un,yn⟩:=Option.isSome_iff_exists.1 (hc aa.1.me.toNat (by omega))
          have Kj:=mA Hv
          have yn5:(((((x1.setCell ⟨gk,aa.1.me.toNat*5,none⟩ (.int .i64 aa.1.kept.view)).setCell ⟨gk,aa.1.me.toNat*5+1,none⟩ (.int .i64 aa.1.kept.normal)).setCell ⟨gk,aa.1.me.toNat*5+2,none⟩ (.bool false)).setCell ⟨gk,aa.1.me.toNat*5+3,none⟩ (.slice Au aa.1.kept.log.length cu)).setCell ⟨gk,aa.1.me.toNat*5+4,none⟩ (.int .i64 aa.1.kept.commit)).cell? ⟨gn,aa.1.me.toNat,none⟩=some un:=(zAq n7).trans yn
          have e0:=cW nn1 dl d0
          have er0:=cW nn1 dm dr0
          have e8:=cW nn1 dm d8
          have e9:=cW nn1 dm d9
          have b0:=cW nn1 dk k0
          have b1:=cW nn1 dk k1
          have b3:=cW nn1 dk k3
          have b4:=cW nn1 dk k4
          clear nn1 hu k1' He hc Hv))
     all_goals
      rename_i hHeld
      clear hHeld
      obtain ⟨wq,Hi⟩:=mJ ((((((x1.setCell ⟨gk,aa.1.me.toNat*5,none⟩ (.int .i64 aa.1.kept.view)).setCell ⟨gk,aa.1.me.toNat*5+1,none⟩ (.int .i64 aa.1.kept.normal)).setCell ⟨gk,aa.1.me.toNat*5+2,none⟩ (.bool false)).setCell ⟨gk,aa.1.me.toNat*5+3,none⟩ (.slice Au aa.1.kept.log.length cu)).setCell ⟨gk,aa.1.me.toNat*5+4,none⟩ (.int .i64 aa.1.kept.commit)).setCell ⟨gn,aa.1.me.toNat,none⟩ (.bool true))
      rw [<- Hi]
      have HQ:=mA (show GvmI w base gw gr gg m A c (ms ++ aa.2) w.heap.size wq from by
       have Kv:IsStrs x1 0 (.slice Au aa.1.kept.log.length cu) (Scu.own aa.1.kept).log:=zBx HU.out Hc.out.own.is.log.len Hc.out.own.is.log.each
       obtain ⟨a1,a2⟩:=Kj.out.put_gives (i:=aa.1.me.toNat) (by omega) Kv
       obtain ⟨hb,cur,hB⟩:=zAx a1.own.own.given.1
       obtain ⟨c1,c2,_⟩:=a1.put_given hB hb aa.1.me.toNat true
       obtain ⟨kss,He⟩:=Kj.out.own.giv
       obtain ⟨_,kcur,Hj⟩:=zAx He.row
       have Kw:=(HT.out.box.same Hg.out.2.2).same M1.out
       have Kx:=Same.set_ (Ts:=[43]) hB (mE _) (by decide) aa.1.me.toNat (.bool true)
       rw [Hi,Hy.out]
       exact ⟨c1.e,zAd (zAd Kw (Same.set5 (Ts:=[43]) Hj (by decide) _ _ _ _ _ _ _ _ _ _) (by simp)) Kx (by simp),(((HT.out.low.trans (Hg.out.2.2.mono Kf)).trans (M1.out.mono (mD Kf Hg.out.2.2.size))).trans a2).trans c2⟩)
      clear Hi yn5 e0 er0 e8 e9 b0 b1 b3 b4 gz y0 y1 y2 y3 y4 nz yn d0 dr0 d8 d9 k0 k1 k3 k4 dl dm dk
      have Hp:base<=wq.heap.size:=mD Ha HQ.out.low.size
      obtain ⟨-,k1,-,k3,k4,k5,-,k7⟩:=cz8 HQ.out.box
      have dk:=HQ.out.box.lt
      go_wp2_with fail
      have H:=zFr wq base gw gr gg m.from_ ⟨m.view,m.normal,false,m.log,m.commit⟩ A m.log.length c (ms ++ aa.2) HQ.out.work Hp Hx.out Hw.out.1 Hw.out.2 (show IsStrs wq base (.slice A m.log.length c) m.log from (HX.out.keep HQ.out.low).is Hp) (mD (Nat.mul_le_mul_right 80 (by have:=HA.out.2.2.2;omega)) HM.out)
      refine H.mono ?_
      clear H
      rintro en w4 ⟨rfl,Hq,Hr⟩
      have HZ:=mA (mB Hq (HQ.out.low.trans Hr))
      clear Hq Hr
      rename_i KK hKK
      refine hKK _ _ ?_
      dsimp only [wpList]
      go_end0
      rw [Hf.out]
      refine ⟨rfl,?_,HZ.out.2⟩
      rw [<- List.append_assoc]
      exact HZ.out.1
end Go.Proofs.YtjnjhmkgfjikfaaDoor
