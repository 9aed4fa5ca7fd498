/- The card of the law 'TopTold': for every input the call returns true; each argument reads as it did. Condition: the three tables of numbers that the library reads hold what the program's text lays in them, which the card ties. -/
import Derived.Test.YtnpphdaakookcaaDoorCards
import Derived.SevenTiedAt
import Derived.ChangeOld
import Derived.Below
import Derived.Test.YtnpphdaakookcaaDoorQ40
set_option linter.unusedVariables false
set_option linter.unusedSimpArgs false
set_option maxHeartbeats 4000000
set_option maxRecDepth 100000
namespace Go.Proofs.YtnpphdaakookcaaDoor
open Go.RowKit
theorem zJw (x r:Scu.Request) (W:World):(binOp .eql 62 (.agg #[.int .i64 x.client,.int .i64 x.num,.int .i64 x.op.kind,.int .i64 x.op.at_,.int .i64 x.op.snap,.string x.op.data]) (.agg #[.int .i64 r.client,.int .i64 r.num,.int .i64 r.op.kind,.int .i64 r.op.at_,.int .i64 r.op.snap,.string r.op.data])).run Tryd.prog W=.ok (.bool (decide (x=r))) W:=by
 rw [zJe,zXj,← zFj]
 simp [go_sem]
 repeat' split
 all_goals simp_all
theorem zXg (s:Scu.Str) (r:Scu.Request) (g:Nat) (w:World) (hb:Blk w g 62 #[.int .i64 r.client,.int .i64 r.num,.int .i64 r.op.kind,.int .i64 r.op.at_,.int .i64 r.op.snap,.string r.op.data]) :
 Calls Tryd.prog 36 #[.string s,.pointer (some ⟨g,0,none⟩)] w fun e w'=>e=.returned (.bool (Scu.isReq r s))∧Below w.heap.size w w':=by
 obtain ⟨x,er,hd⟩:∃ x e,Scu.decode s=(x,e):=⟨_,_,rfl⟩
 have K:=Lib.hid (zPl s w)
 rw [hd] at K
 have HI:=Lib.hid (show Scu.isReq r s=decide ((x,er)=(r,(0:Int))) by unfold Scu.isReq;rw [hd])
 have HB:=Lib.hid hb
 clear hb hd
 go_enter Tryd.func36,Tryd.ntmps36
 go_wp2_with fail
 refine K.out.mono ?_;rintro e w1 ⟨rfl,h1⟩
 rw [vRequest]
 dsimp only
 go_upto_region 2 with fail
 have Hb:=zAa w1 (Obj.cells #[.int .i64 x.client,.int .i64 x.num,.int .i64 x.op.kind,.int .i64 x.op.at_,.int .i64 x.op.snap,.string x.op.data] 62)
 have Hc:=Blk.new w1 62 #[.int .i64 x.client,.int .i64 x.num,.int .i64 x.op.kind,.int .i64 x.op.at_,.int .i64 x.op.snap,.string x.op.data]
 have Hd:=(HB.out.same h1).same Hb
 have HF:=Lib.hid (h1.trans (Hb.mono h1.size))
 obtain ⟨Wd,Ha⟩:∃ W,W=w1.alloc (Obj.cells #[.int .i64 x.client,.int .i64 x.num,.int .i64 x.op.kind,.int .i64 x.op.at_,.int .i64 x.op.snap,.string x.op.data] 62):=⟨_,rfl⟩
 obtain ⟨gx,He⟩:∃ g,w1.heap.size=g:=⟨_,rfl⟩
 rw [← Ha,He] at Hc
 rw [← Ha] at Hd HF
 rw [← Ha,He]
 obtain ⟨a0,a1,a2,a3,a4,a5⟩:=cz6 Hc
 obtain ⟨b0,b1,b2,b3,b4,b5⟩:=cz6 Hd
 clear Ha He Hc Hd Hb h1 HB
 have hq:=zJw x r
 by_cases he:er=0
 ·have Hf:(er == 0)=true:=by simp [he]
  by_cases hx:x=r
  ·have hd:decide (x=r)=true:=by simp [hx]
   have HT:=Lib.hid (show Scu.isReq r s=true by rw [HI.out,he,hx];simp)
   clear hx he
   go_wp2
   go_ret
   exact ⟨zAb (zBt HT.out.symm),HF.out⟩
  have hd:decide (x=r)=false:=by simp [hx]
  have HT:=Lib.hid (show Scu.isReq r s=false by rw [HI.out];simp [hx])
  clear hx he
  go_wp2
  go_ret
  exact ⟨zAb (zBt HT.out.symm),HF.out⟩
 have Hf:(er == 0)=false:=by simp [he]
 have HT:=Lib.hid (show Scu.isReq r s=false by rw [HI.out];simp [he])
 clear he
 go_wp2
 go_ret
 exact ⟨zAb (zBt HT.out.symm),HF.out⟩
def placeI (xs:List Scu.Str) (r:Scu.Request):Int:=if Scu.placeOf xs r < xs.length then (Scu.placeOf xs r:Int) else -1
theorem zRu (v:Value) (xs:List Scu.Str) (w:World) (B:Nat) (hv:IsStrs w B v xs) (r:Scu.Request) (g:Nat) (hb:Blk w g 62 #[.int .i64 r.client,.int .i64 r.num,.int .i64 r.op.kind,.int .i64 r.op.at_,.int .i64 r.op.snap,.string r.op.data]) :
 Calls Tryd.prog 35 #[v,.func (.func 36) #[] #[.pointer (some ⟨g,0,none⟩)]] w fun e w'=>e=.returned (.int .i64 (placeI xs r))∧Below w.heap.size w w':=by
 obtain ⟨⟨A,c,rfl,_,hr⟩,hl,_⟩:=hv
 unfold R47 at hl
 have HR:=Lib.hid hr
 have HB:=Lib.hid hb
 clear hr hb
 go_enter Tryd.func35,Tryd.ntmps35
 go_wp2
 go_loopw [8] (fun i wr=>∃ k:Nat,k≤xs.length∧i=.int .i64 k∧Hid (Below w.heap.size w wr∧∀ j (hj:j < xs.length),j < k→Scu.isReq r xs[j]=false)) (fun i _=>xs.length - (intOf i).toNat)
 case atStart=>exact ⟨0,Nat.zero_le _,rfl,Lib.hid ⟨Below.refl _ _,fun j _ h=>by omega⟩⟩
 case round =>
  obtain ⟨k,hk,rfl,HK⟩:=hrel
  by_cases Hb:k < xs.length
  ·have Hc:(k:Int) < (xs.length:Int):=by omega
   obtain ⟨gx,o,rfl,_,hc⟩:=zEf (HR.out.below HK.out.1) Hb
   obtain ⟨s,hs⟩:∃ s,xs[k]=s:=⟨_,rfl⟩
   rw [hs] at hc
   have HS:=Lib.hid hs
   clear hs
   go_wp2_with fail
   refine (zXg s r g wr (HB.out.same HK.out.1)).mono ?_;rintro e w2 ⟨rfl,h2⟩
   have HW:=Lib.hid (HK.out.1.trans (h2.mono HK.out.1.size))
   obtain ⟨b,Ha⟩:∃ b,Scu.isReq r s=b:=⟨_,rfl⟩
   rw [Ha]
   cases b with
   | true =>
     have HP:=Lib.hid (show placeI xs r=k by
      have e:Scu.placeOf xs r=k:=(List.findIdx_eq Hb).2 ⟨by rw [HS.out];exact Ha,fun j hj=>HK.out.2 j (by omega) hj⟩
      unfold placeI
      rw [e,if_pos Hb])
     clear Ha
     go_wp2
     go_ret
     exact ⟨zAb (zAd HP.out.symm),HW.out⟩
   | false =>
     have HN:=Lib.hid (show ∀ j (hj:j < xs.length),j < k+1→Scu.isReq r xs[j]=false from fun j hj Hd=>by
      by_cases e:j=k
      ·subst e;rw [HS.out];exact Ha
      exact HK.out.2 j hj (by omega))
     clear Ha
     go_wp2
     go_roundw
     case rel=>first | exact ⟨k+1,by omega,rfl,Lib.hid ⟨HW.out,HN.out⟩⟩ | ((repeat apply Exists.intro);exact ⟨⟨k+1,by omega,rfl,Lib.hid ⟨HW.out,HN.out⟩⟩,rfl⟩)
     case measure=>first | (simp only [intOf];omega) | (simp [intOf];omega)
  have Hc:¬ (k:Int) < (xs.length:Int):=by omega
  have HP:=Lib.hid (show placeI xs r = -1 by
   have e:Scu.placeOf xs r=xs.length:=List.findIdx_eq_length.2 (fun x hx=>by
    obtain ⟨j,hj,rfl⟩:=List.mem_iff_getElem.1 hx
    exact HK.out.2 j hj (by omega))
   unfold placeI
   rw [e,if_neg (Nat.lt_irrefl _)])
  go_wp2
  go_ret
  exact ⟨zAb (zAd HP.out.symm),HK.out.1⟩
theorem yAj (v:Value) (xs:List Scu.Str) (w:World) (B:Nat) (hv:IsStrs w B v xs) (r:Scu.Request) :
 Calls Tryd.prog 23 #[v,.agg #[.int .i64 r.client,.int .i64 r.num,.int .i64 r.op.kind,.int .i64 r.op.at_,.int .i64 r.op.snap,.string r.op.data]] w fun e w'=>e=.returned (.int .i64 (placeI xs r))∧Below w.heap.size w w':=by
 have Hb:∀ (fn:Fn) (first cap:Array Value) (w:World),(Instr.makeFunc fn first cap).run Tryd.prog w=.ok (.func fn first cap) w:=fun _ _ _ _=>rfl
 obtain ⟨A,n,c,rfl⟩:=hv.form
 have Ha:=zAa w (Obj.cells #[.int .i64 r.client,.int .i64 r.num,.int .i64 r.op.kind,.int .i64 r.op.at_,.int .i64 r.op.snap,.string r.op.data] 62)
 have K:=Lib.hid (zRu (.slice A n c) xs (w.alloc (Obj.cells #[.int .i64 r.client,.int .i64 r.num,.int .i64 r.op.kind,.int .i64 r.op.at_,.int .i64 r.op.snap,.string r.op.data] 62)) B (hv.below Ha) r w.heap.size (Blk.new w _ _))
 have HA:=Lib.hid Ha
 clear hv Ha
 go_enter Tryd.func23,Tryd.ntmps23
 go_wp2_with fail
 refine K.out.mono ?_;rintro e w2 ⟨rfl,h2⟩
 have HF:=Lib.hid (HA.out.trans (h2.mono HA.out.size))
 clear h2
 go_wp2
 go_ret
 exact ⟨rfl,HF.out⟩
theorem zXh {w:World} {A:Option Addr} {n c:Nat} {ts:List Scu.Told} (h:IsRow 66 9 88 ToldE w 0 (.slice A n c) ts) {k:Nat} (hk:k < ts.length) {t:Scu.Told} (e:ts[k]=t) :
 ∃ g o,A=some ⟨g,o,none⟩∧w.cell? ⟨g,o+k*9,none⟩=some (.int .i64 t.request.client)∧w.cell? ⟨g,o+k*9+1,none⟩=some (.int .i64 t.request.num)∧w.cell? ⟨g,o+k*9+2,none⟩=some (.int .i64 t.request.op.kind)∧w.cell? ⟨g,o+k*9+3,none⟩=some (.int .i64 t.request.op.at_) ∧
  w.cell? ⟨g,o+k*9+4,none⟩=some (.int .i64 t.request.op.snap)∧w.cell? ⟨g,o+k*9+5,none⟩=some (.string t.request.op.data)∧w.cell? ⟨g,o+k*9+6,none⟩=some (.int .i64 t.reply.code)∧w.cell? ⟨g,o+k*9+7,none⟩=some (.int .i64 t.reply.n)∧w.cell? ⟨g,o+k*9+8,none⟩=some (.string t.reply.data):=by
 obtain ⟨⟨A',c',css2,e1,_,h2,h3,Hc,h4⟩,_⟩:=h
 cases e1
 obtain ⟨g,o,cs1,rfl,hg,_,Ha,Hb⟩:=zDo h2 h3 (by decide) Hc h4 hk
 rw [e] at Hb
 have e1:cs1=toldV t:=Hb
 subst e1
 exact ⟨g,o,rfl,Ha 0 _ rfl,Ha 1 _ rfl,Ha 2 _ rfl,Ha 3 _ rfl,Ha 4 _ rfl,Ha 5 _ rfl,Ha 6 _ rfl,Ha 7 _ rfl,Ha 8 _ rfl⟩
theorem lawTopTold_c (v:Value) (l:List Scu.Raw) (w:World) (h:IsRaws w w.heap.size v l) (ht:Tab w) :
 Calls Tryd.prog 6 #[v] w fun e w'=>e=.returned (.bool true)∧Below w.heap.size w w':=by
 obtain ⟨Al,cl,rfl,Vc⟩:=h.form'
 obtain ⟨la,Hc⟩:∃ la,Scu.rawActs l 280 3=la:=⟨_,rfl⟩
 obtain ⟨o,ho⟩:∃ o,Scu.outOf (Scu.steps (Scu.netNew 3) la)=o:=⟨_,rfl⟩
 have K:=Lib.hid (zRt (.slice Al l.length cl) l 280 w w.heap.size (Nat.le_refl _) h ht (by decide) la Hc o ho)
 have Kk:=Lib.hid (Scu.came_bound ho)
 have Ka:=Lib.hid (fun t (ht:t ∈ o.told)=>Scu.came_told ho ht)
 clear h ht Hc ho
 go_enter Tryd.func6,Tryd.ntmps6
 go_wp2_with fail
 refine K.out.mono ?_;rintro e w1 ⟨⟨A,c,A0,c0,A1,c1,A2,c2,A3,c3,A4,c4,A5,c5,rfl,He,Hf⟩,h1⟩
 go_upto_region 2 with fail
 have hR:=RanB.made h1 He
 obtain ⟨Wd,Hl⟩:∃ W,W=w1.alloc (Obj.cells #[.slice A0 o.replicas.length c0,.slice A1 o.slots.length c1,.slice A2 o.flying.length c2,.slice A3 o.clients.length c3,.slice A4 o.told.length c4,.slice A5 o.codes.length c5] 32):=⟨_,rfl⟩
 obtain ⟨g,hg⟩:∃ g,w1.heap.size=g:=⟨_,rfl⟩
 rw [← Hl,hg] at hR
 rw [← Hl,hg]
 obtain ⟨b0,b1,b2,b3,b4,b5⟩:=cz6 hR.box
 have HR:=Lib.hid hR
 clear hR Hl hg h1 He Hf K
 go_wp2_with fail
 refine (zBo _ _ _ _ _ _ o.replicas Wd HR.out.out.reps Kk.out rfl rfl rfl rfl rfl).mono ?_;rintro e w2 ⟨⟨A6,c6,rfl,Hb⟩,h2⟩
 obtain ⟨all,Ha⟩:∃ all,Scu.committed o.replicas=all:=⟨_,rfl⟩
 rw [Ha] at Hb Ka
 rw [Ha]
 have Vd:all.length≤c6:=by obtain ⟨⟨A',c',e,h',_⟩,_⟩:=Hb;cases e;exact h'
 have Hg:=Lib.hid (HR.out.below h2)
 have Hh:=Lib.hid Hb
 obtain ⟨-,-,-,-,d4⟩:=cz5 Hg.out.box
 have Hm:=Hg.out.out.told.len
 unfold R47 at Hm
 have Hn:=Hh.out.len
 unfold R47 at Hn
 clear b0 b1 b2 b3 b4 b5 HR h2 Hb Ha
 go_wp2_with fail
 go_loopw [23] (fun i wr=>∃ k:Nat,k≤o.told.length∧i=.int .i64 k∧Hid (Below w2.heap.size w2 wr)) (fun i _=>o.told.length - (intOf i).toNat)
 case atStart=>exact ⟨0,Nat.zero_le _,rfl,Lib.hid (Below.refl _ _)⟩
 case round =>
  obtain ⟨k,hk,rfl,HK⟩:=hrel
  by_cases Kb:k < o.told.length
  ·have Ho:(k:Int) < (o.told.length:Int):=by omega
   have Kc:=Ka.out o.told[k] (List.getElem_mem Kb)
   obtain ⟨t,ht⟩:∃ t,o.told[k]=t:=⟨_,rfl⟩
   obtain ⟨gt,ot,rfl,p0,p1,p2,p3,p4,p5,p6,p7,p8⟩:=zXh (Hg.out.below HK.out).out.told Kb ht
   rw [ht] at Kc
   obtain ⟨Hp,⟨Kl,Km⟩,st,Hq,Kd,Hc⟩:=Kc
   obtain ⟨pn,Hr⟩:∃ pn,Scu.placeOf all t.request=pn:=⟨_,rfl⟩
   rw [Hr] at Hp Hq
   have Ke:placeI all t.request=pn:=by unfold placeI;rw [Hr,if_pos Hp]
   obtain ⟨id0,hid⟩:∃ id0:Nat,t.request.client=(id0:Int)+1:=⟨(t.request.client - 1).toNat,by omega⟩
   have Hs:id0 < 4:=by omega
   have Ha:=zAa wr (Obj.cells #[.int .i64 t.request.client,.int .i64 t.request.num,.int .i64 t.request.op.kind,.int .i64 t.request.op.at_,.int .i64 t.request.op.snap,.string t.request.op.data,.int .i64 t.reply.code,.int .i64 t.reply.n,.string t.reply.data] 66)
   have Hd:=Blk.new wr 66 #[.int .i64 t.request.client,.int .i64 t.request.num,.int .i64 t.request.op.kind,.int .i64 t.request.op.at_,.int .i64 t.request.op.snap,.string t.request.op.data,.int .i64 t.reply.code,.int .i64 t.reply.n,.string t.reply.data]
   have HB:=Lib.hid (HK.out.trans (Ha.mono HK.out.size))
   have HS:=Lib.hid ((Hh.out.below HK.out).below Ha)
   have Kn:=Lib.hid Ke
   have Ko:=Lib.hid Hq
   have Kp:=Lib.hid Kd
   have Kq:=Lib.hid (show st.lasts.getD id0 Scu.last0=⟨t.request.num,t.reply⟩ by rw [← Hc,hid];congr 1;omega)
   have Kr:=Lib.hid hid
   clear Kl Km Hq Kd Hc ht Hr Ke hid
   go_upto_region 6 with fail
   obtain ⟨Wq,Hj⟩:∃ W,W=wr.alloc (Obj.cells #[.int .i64 t.request.client,.int .i64 t.request.num,.int .i64 t.request.op.kind,.int .i64 t.request.op.at_,.int .i64 t.request.op.snap,.string t.request.op.data,.int .i64 t.reply.code,.int .i64 t.reply.n,.string t.reply.data] 66):=⟨_,rfl⟩
   obtain ⟨gq,Ht⟩:∃ g,wr.heap.size=g:=⟨_,rfl⟩
   rw [← Hj,Ht] at Hd
   rw [← Hj] at HB HS
   rw [← Hj,Ht]
   obtain ⟨x0,x1,x2,x3,x4,x5⟩:=cz6 Hd
   have Kf:=Lib.hid Hd
   clear Hj Ht Hd Ha p0 p1 p2 p3 p4 p5 p6 p7 p8
   go_wp2_with fail
   refine (yAj _ all Wq 0 HS.out t.request).mono ?_;rintro e w5 ⟨rfl,h5⟩
   rw [Kn.out]
   have Hu:=Lib.hid (Kf.out.same h5)
   have Kg:=Lib.hid (HB.out.trans (h5.mono HB.out.size))
   have Ks:=Lib.hid (HS.out.below h5)
   have Kt:¬ ((pn:Int) < 0):=by omega
   have Ku:(pn:Int)+1≤(c6:Int):=by omega
   have Kv:(0:Int)≤(pn:Int)+1:=by omega
   have Kw:IntKind.i64.wrap ((pn:Int)+1)=((pn+1:Nat):Int):=by rw [IntWalk.i64_in _ (by omega)];omega
   have Kx:pn+1≤c6:=by omega
   have Kh:pn+1≤all.length:=by omega
   clear x0 x1 x2 x3 x4 x5 Kf HB HS h5
   go_wp2_with fail
   refine (zQd A6 (pn+1) c6 (all.take (pn+1)) w5 0 (Ks.out.take Kh) st 0 Ko.out).mono ?_;rintro en w6 ⟨⟨N0,m0,n0,N1,m1,n1,N2,n2,rfl,hs⟩,h6⟩
   go_upto_region 10 with fail
   have Ha:=zAa w6 (Obj.cells #[.slice N0 m0 n0,.slice N1 m1 n1,.slice N2 st.lasts.length n2] 72)
   have Hv:=h6.trans (Ha.mono h6.size)
   have Hw:=Blk.new w6 72 #[.slice N0 m0 n0,.slice N1 m1 n1,.slice N2 st.lasts.length n2]
   have Hd:=Hu.out.same Hv
   have Hx:=Lib.hid (Kg.out.trans (Hv.mono Kg.out.size))
   have Hy:=hs.lasts.below Ha
   obtain ⟨Wz,Hk⟩:∃ W,W=w6.alloc (Obj.cells #[.slice N0 m0 n0,.slice N1 m1 n1,.slice N2 st.lasts.length n2] 72):=⟨_,rfl⟩
   obtain ⟨gz,Hz⟩:∃ g,w6.heap.size=g:=⟨_,rfl⟩
   rw [← Hk,Hz] at Hw
   rw [← Hk] at Hd Hx Hy
   rw [← Hk,Hz]
   clear Hk Hz Hv h6 hs Ha
   obtain ⟨Ax,cx,ex,_,Ki⟩:=Hy.ex
   cases ex
   have Hi:id0 < st.lasts.length:=by rw [Kp.out];exact Hs
   obtain ⟨gl,ol,eA,gll,t0,t1,t2,t3⟩:=zGo Ki Hi
   have Hc:st.lasts[id0]=⟨t.request.num,t.reply⟩:=by
    have:=Kq.out
    rwa [List.getD_eq_getElem?_getD,List.getElem?_eq_getElem Hi,Option.getD_some] at this
   rw [Hc] at t0 t1 t2 t3
   subst eA
   obtain ⟨x0,x1,-,-,-,-,x6,x7,x8⟩:=cz9 Hd
   obtain ⟨-,-,z1⟩:=cz3 Hw
   rw [Kr.out] at x0
   have Ky:IntKind.i64.wrap ((id0:Int)+1 - 1)=(id0:Int):=by rw [IntWalk.i64_in _ (by omega)];omega
   have Kz:IntKind.i64.wrap (id0:Int)=(id0:Int):=IntWalk.i64_in _ (by omega)
   have Kj:(0:Int)≤(id0:Int):=by omega
   have Va:(id0:Int)+1 - 1=(id0:Int):=by omega
   have Vb:(id0:Int) < (st.lasts.length:Int):=by omega
   have hq:∀ W,(binOp .neq 76 (.agg #[.int .i64 t.request.num,.int .i64 t.reply.code,.int .i64 t.reply.n,.string t.reply.data]) (.agg #[.int .i64 t.request.num,.int .i64 t.reply.code,.int .i64 t.reply.n,.string t.reply.data])).run Tryd.prog W=.ok (.bool false) W:=fun W=>by
    have:=zMx ⟨t.request.num,t.reply⟩ ⟨t.request.num,t.reply⟩ W
    simpa using this
   clear Hd Hw Hy Ki Hc Kt Ku Kv Kw Kx Kh Hp
   go_wp2_with fail
   go_quiet (fail)
   go_wp2
   go_roundw
   case rel=>first | exact ⟨k+1,by omega,rfl,Lib.hid (below_drewN Hx.out _)⟩ | ((repeat apply Exists.intro);exact ⟨⟨k+1,by omega,rfl,Lib.hid (below_drewN Hx.out _)⟩,rfl⟩)
   case measure=>first | (simp only [intOf];omega) | (simp [intOf];omega)
  have Ho:¬ (k:Int) < (o.told.length:Int):=by omega
  have HF:=Lib.hid (Hg.out.low.trans (HK.out.mono Hg.out.low.size))
  go_wp2
  go_ret
  exact ⟨rfl,HF.out⟩
theorem lawTopTold_w (v:Value) (l:List Scu.Raw) {w:World} (h:IsRaws w w.heap.size v l) (W:World) (hW:W=w) (ht:Tab W) :
 Calls Tryd.prog 6 #[v] W fun e w'=>e=.returned (.bool true)∧Below W.heap.size W w':=by
 subst hW
 exact lawTopTold_c v l W h ht
end Go.Proofs.YtnpphdaakookcaaDoor
namespace Go.Proofs.YtnpphdaakookcaaDoor.topToldDone
open Go.ChangeShapes Go.WideShapes Go.ChangeAt Go.RowKit
open Go.ChangeMaps (open_string shut_string)
theorem own : ownKnob Tryd.prog.godebug = none := by kernel_rfl
theorem laidOut : laidOutB Tryd.prog = true := by kernel_rfl
set_option maxRecDepth 100000 in
theorem lifted (os : Os) (started : os.Started) (H : Type) (enc : TypeId × Value → H) :
    ReturnsInHanded {} Tryd.checked os 6 .any (fun w args => (Rows.topToldSpec.pre enc Tryd.prog Tryd.f6 [] false w args ∧ laidMetH Tryd.prog Rows.topToldRow.laid w) ∧ sizedMet enc Tryd.prog Tryd.f6 (OpenSpec.ofChange Rows.topToldSpec) false w args)
      (Rows.topToldSpec.post enc Tryd.prog Tryd.f6 false true false false) := by
  refine returnsInHanded_of_change_and (C := Tryd.checked) (X := fun w _ => laidMetH Tryd.prog Rows.topToldRow.laid w) (fun _ _ _ hh h => h.of_heap hh) own started (by kernel_rfl) Tryd.func6
    (ChangeSpec.witness_shaped (enc := enc) (C := Tryd.checked) (os := os) (X := fun w _ => laidMetH Tryd.prog Rows.topToldRow.laid w) false (World.doorLaid Tryd.prog doorFuel os) #[.slice none 0 0] 8 rfl (zCs os _) (by kernel_rfl) (by kernel_rfl) (by kernel_rfl) (zFu os _)) ?_
  intro W base args ds gs before hval0 hW _ hsz hL _
  have htab := zKz hL
  have hwt0 : ∀ (j : Nat) (t : TypeId) (d : DataW H), (Tryd.f6.params.toList ++ Rows.topToldSpec.plain.varTypes Tryd.prog)[j]? = some t → (ds ++ gs)[j]? = some d → ∀ k ∈ d.weights Tryd.prog t, k ≤ reachBytes := fun j t d ht hd k hk => by
    have := List.all_eq_true.1 hsz k (DataW.weights_mem_each ht hd k hk)
    simpa using this
  clear hsz hL
  have hwt := hwt0
  rw [Tryd.params6] at hwt
  have hval : ∀ (j : Nat) t v, Tryd.f6.params[j]? = some t → args[j]? = some v → Value.okWide Tryd.prog W .any base t v := hval0
  have hW' := hW
  obtain ⟨p, q, hA0, hV, rfl, hfz, hnd⟩ := hW
  have hA : DataW.TrodAll enc Tryd.prog W 0 (fun _ => true) true Tryd.f6.params.toList args.toList ds p := hA0
  rw [Tryd.params6] at hA hval
  obtain ⟨v0, vs0, d0, ds0, p0, q0, hargs, rfl, rfl, h0, r0⟩ := trodAll_cons hA
  obtain ⟨rfl, rfl, rfl⟩ := trodAll_nil r0
  obtain rfl : args = #[v0] := by cases args; simp_all
  obtain ⟨rfl, rfl⟩ := trodVars_none hV
  have k0 := h0
  have lt0 : ∀ x ∈ p0, x.block < W.heap.size := by obtain ⟨m, hm⟩ := k0; exact DataW.trod_lt m _ _ _ hm
  obtain ⟨a0, w0⟩ := zDh (hval 0 22 v0 rfl rfl) h0 (hwt 0 22 d0 rfl rfl)
  clear hA0 hval0
  refine (lawTopTold_w v0 a0 w0 W rfl htab).mono fun e W' ⟨he, bel⟩ => ?_
  subst he
  exact ⟨_, rfl, _, _, _, [], _, [], hW', trodAll_mk1 (shut_bool Tryd.underlying4 _), (trodAll_cons_mk (Below.trod laidOut (by kernel_rfl) (of_decide_eq_true (by kernel_rfl)) k0 bel lt0) trodAll_mk0), rfl, bel.frame _, fun h => by cases h⟩
theorem over : Rows.TopToldSaid :=
  OpenClaim.holds_of_wide 6 Tryd.f6 rfl rfl rfl rfl rfl rfl rfl ⟨rfl, rfl, rfl, rfl, rfl⟩ rfl rfl rfl rfl rfl (by kernel_rfl) Tryd.func6 (zFt rfl rfl rfl rfl rfl rfl (by as_aux_lemma => kernel_rfl) (by as_aux_lemma => kernel_rfl) (by as_aux_lemma => kernel_rfl) (by as_aux_lemma => kernel_rfl) (by as_aux_lemma => kernel_rfl) (by as_aux_lemma => kernel_rfl) (by as_aux_lemma => kernel_rfl))
    (of_decide_eq_true (by kernel_rfl)) (by unfold Func.isWrapper; first | (rw [if_pos (by decide +kernel)]; kernel_rfl) | (rw [if_neg (by decide +kernel)]; exact ⟨rfl, rfl⟩))
    (fun os started H enc _ => lifted os started H enc)
theorem proved : Rows.TopToldCardSaid :=
  Claim7.holds_tied_plain_at .later [] [.data, .data, .data] true Rows.topToldCard.stood.harness false
    over (fun _ h => by cases h) (by kernel_rfl) (fun _ h => by cases h) topTold_row_tie rfl ⟨rfl, rfl⟩ (by kernel_rfl) rfl
    (fun f fn hf hfn => by
      obtain rfl : f = 6 := Option.some.inj ((show Tryd.prog.funcNamed Rows.topToldRow.func = some 6 by kernel_rfl).symm.trans hf) |>.symm
      obtain rfl : fn = Tryd.f6 := (Option.some.inj (Tryd.func6.symm.trans hfn)).symm
      exact ⟨by kernel_rfl, fun j t ht => by
        rw [Tryd.params6] at ht
        have hm : t ∈ [22] := by simpa using Array.mem_of_getElem? ht
        have hall : ([22].all fun u => !Tryd.prog.wantsStandIn u) = true := by kernel_rfl
        exact (show Tryd.prog.wantsStandIn t = false by simpa using List.all_eq_true.1 hall t hm)⟩)
    (by kernel_rfl)
end Go.Proofs.YtnpphdaakookcaaDoor.topToldDone
