/- Part 27: words and walks under the laws of the whole. -/
import Derived.Test.YtjnjhmkgfjikfaaDoorLv26
set_option linter.unusedVariables false
set_option linter.unusedSimpArgs false
set_option maxHeartbeats 4000000
set_option maxRecDepth 100000
namespace Go.Proofs.YtjnjhmkgfjikfaaDoor
open Go.RowKit
theorem zMe (m:Scu.Message) (A:Option Addr) (n c:Nat) (g:Nat) (j:Int) (w:World) (hb:Blk w g 3 #[.int .i64 j]) :
 Calls Tryd.prog 11 #[.agg #[.int .i64 m.kind,.int .i64 m.from_,.int .i64 m.tq,.int .i64 m.view,.int .i64 m.normal,.int .i64 m.commit,.int .i64 m.n,.slice A n c],.pointer (some ⟨g,0,none⟩)] w fun e w'=>e=.returned (.bool (decide (m.tq=j)))/\Below w.heap.size w w':=by
 have Ha:=zAa w (.cells (mN m A n c) 43)
 have Hb:=Blk.new w 43 (mN m A n c)
 have Hc:=hb.same Ha
 have Hd:g≠w.heap.size:=by have:=hb.lt;omega
 obtain ⟨b,hd⟩:=mK (decide (m.tq=j))
 have He:(m.tq == j)=b:=by rw [<- hd];rfl
 have HD:=mA hd
 have HF:=mA Ha
 clear hd
 obtain ⟨-,-,x2⟩:=cz3 Hb
 have y0:=cz1 Hc
 clear Hb Hc hb Ha
 go_enter Tryd.func11,Tryd.ntmps11
 go_wp2
 go_ret
 exact ⟨zAb (zCb HD.out.symm),HF.out⟩
theorem zMf (m:Scu.Message) (A:Option Addr) (n c:Nat) (w:World) :
 Calls Tryd.prog 14 #[.agg #[.int .i64 m.kind,.int .i64 m.from_,.int .i64 m.tq,.int .i64 m.view,.int .i64 m.normal,.int .i64 m.commit,.int .i64 m.n,.slice A n c]] w fun e w'=>e=.returned (.bool (decide (m.tq=2) && decide (m.kind=3)))/\Below w.heap.size w w':=by
 have Ha:=zAa w (.cells (mN m A n c) 43)
 have Hb:=Blk.new w 43 (mN m A n c)
 have HF:=mA Ha
 obtain ⟨x0,-,x2⟩:=cz3 Hb
 clear Hb Ha
 by_cases h2:m.tq=2
 ·have Hc:(m.tq == 2)=true:=by simp [h2]
  by_cases h3:m.kind=3
  ·have Hd:(m.kind == 3)=true:=by simp [h3]
   have HD:=mA (show (decide (m.tq=2) && decide (m.kind=3))=true by simp [h2,h3])
   clear h2 h3
   go_enter Tryd.func14,Tryd.ntmps14
   go_wp2
   go_ret
   exact ⟨zAb (zCb HD.out.symm),HF.out⟩
  have Hd:(m.kind == 3)=false:=by simp [h3]
  have HD:=mA (show (decide (m.tq=2) && decide (m.kind=3))=false by simp [h3])
  clear h2 h3
  go_enter Tryd.func14,Tryd.ntmps14
  go_wp2
  go_ret
  exact ⟨zAb (zCb HD.out.symm),HF.out⟩
 have Hc:(m.tq == 2)=false:=by simp [h2]
 have HD:=mA (show (decide (m.tq=2) && decide (m.kind=3))=false by simp [h2])
 clear h2
 go_enter Tryd.func14,Tryd.ntmps14
 go_wp2
 go_ret
 exact ⟨zAb (zCb HD.out.symm),HF.out⟩
def idxI {α:Type} (p:α->Bool) (xs:List α):Int:=if xs.findIdx p < xs.length then (xs.findIdx p:Int) else -1
theorem zIv {α:Type} {p:α->Bool} {xs:List α} {k:Nat} (hk:k < xs.length) (h:p xs[k]=true) (hn:∀ j (hj:j < xs.length),j < k->p xs[j]=false):idxI p xs=k:=by
 have e:xs.findIdx p=k:=(List.findIdx_eq hk).2 ⟨h,fun j hj=>hn j (by omega) hj⟩
 unfold idxI
 rw [e,if_pos hk]
theorem zGz {α:Type} {p:α->Bool} {xs:List α} (hn:∀ j (hj:j < xs.length),p xs[j]=false):idxI p xs = -1:=by
 have e:xs.findIdx p=xs.length:=List.findIdx_eq_length.2 (fun x hx=>by
  obtain ⟨j,hj,rfl⟩:=List.mem_iff_getElem.1 hx
  exact hn j hj)
 unfold idxI
 rw [e,if_neg (Nat.lt_irrefl _)]
theorem zIw (v:Value) (xs:List Scu.Message) (w:World) (hv:IsRow 43 8 80 MsgE w 0 v xs) (g:Nat) (j:Int) (hb:Blk w g 3 #[.int .i64 j]) :
 Calls Tryd.prog 10 #[v,.func (.func 11) #[] #[.pointer (some ⟨g,0,none⟩)]] w fun e w'=>e=.returned (.int .i64 (idxI (fun m:Scu.Message=>decide (m.tq=j)) xs))/\Below w.heap.size w w':=by
 obtain ⟨p,hp⟩:∃ p:Scu.Message->Bool,p=fun m=>decide (m.tq=j):=⟨_,rfl⟩
 have Hg:=mA (show ∀ m:Scu.Message,decide (m.tq=j)=p m from fun m=>by rw [hp])
 have HB:=mA hb
 rw [<- hp]
 clear hp hb
 obtain ⟨⟨A',c',css,rfl,_,h2,h3,hr,h4⟩,hl⟩:=hv
 unfold R47 at hl
 have R1:=mA (mB h2 (mB h3 (mB hr h4)))
 clear h2 h3 hr h4
 go_enter Tryd.func10,Tryd.ntmps10
 go_wp2
 go_loopw [8] (fun i wr=>∃ k:Nat,k<=xs.length/\i=.int .i64 k/\Hid (Below w.heap.size w wr/\∀ j (hj:j < xs.length),j < k->p xs[j]=false)) (fun i _=>xs.length - (intOf i).toNat)
 case atStart=>exact ⟨0,mE _,rfl,mA ⟨mG _ _,fun j _ h=>by omega⟩⟩
 case round =>
  obtain ⟨k,hk,rfl,HK⟩:=hrel
  by_cases He:k < xs.length
  ·have Hb:(k:Int) < (xs.length:Int):=by omega
   obtain ⟨gx,o,cs1,rfl,hg,_,hc,xv,Hh,Hc⟩:=zCo R1.out.1 R1.out.2.1 (by decide) R1.out.2.2.1 R1.out.2.2.2 He
   subst Hh
   obtain ⟨m,hm⟩:=mK (xs[k])
   rw [hm] at hc Hc
   obtain ⟨A,n,c,rfl⟩:=Hc.form
   have Ha:=fun (j:Nat) (u:Value) (hj:_[j]? = some u)=>(HK.out.1.cell (p:=⟨gx,o+(k*8+j),none⟩) hg).trans (hc j u hj)
   have c0:wr.cell? ⟨gx,o+k*8,none⟩=some (.int .i64 m.kind):=Ha 0 _ rfl
   have c1:wr.cell? ⟨gx,o+k*8+1,none⟩=some (.int .i64 m.from_):=Ha 1 _ rfl
   have c2:wr.cell? ⟨gx,o+k*8+2,none⟩=some (.int .i64 m.tq):=Ha 2 _ rfl
   have c3:wr.cell? ⟨gx,o+k*8+3,none⟩=some (.int .i64 m.view):=Ha 3 _ rfl
   have c4:wr.cell? ⟨gx,o+k*8+4,none⟩=some (.int .i64 m.normal):=Ha 4 _ rfl
   have c5:wr.cell? ⟨gx,o+k*8+5,none⟩=some (.int .i64 m.commit):=Ha 5 _ rfl
   have c6:wr.cell? ⟨gx,o+k*8+6,none⟩=some (.int .i64 m.n):=Ha 6 _ rfl
   have c7:wr.cell? ⟨gx,o+k*8+7,none⟩=some (.slice A n c):=Ha 7 _ rfl
   have HM:=mA hm
   clear hm hc Ha Hc
   go_wp2_with fail
   refine (zMe m A n c g j wr (HB.out.same HK.out.1)).mono ?_;rintro e w2 ⟨rfl,h2⟩
   have HW:=mA (HK.out.1.trans (h2.mono HK.out.1.size))
   obtain ⟨b,Hd⟩:=mK (p m)
   have Hf:=mA Hd
   rw [show (decide (m.tq=j))=b from (Hg.out m).trans Hd]
   clear Hd h2 c0 c1 c2 c3 c4 c5 c6 c7
   cases b with
   | true =>
     have HP:=mA (zIv (p:=p) He (by rw [HM.out];exact Hf.out) HK.out.2)
     go_wp2
     go_ret
     exact ⟨zAb (zAg HP.out.symm),HW.out⟩
   | false =>
     have HN:=mA (show ∀ j (hj:j < xs.length),j < k+1->p xs[j]=false from fun j hj Hi=>by
      by_cases e:j=k
      ·subst e;rw [HM.out];exact Hf.out
      exact HK.out.2 j hj (by omega))
     go_wp2
     go_roundw
     case rel=>first | exact ⟨k+1,by omega,rfl,mA ⟨HW.out,HN.out⟩⟩ | ((repeat apply Exists.intro);exact ⟨⟨k+1,by omega,rfl,mA ⟨HW.out,HN.out⟩⟩,rfl⟩)
     case measure=>first | (simp only [intOf];omega) | (simp [intOf];omega)
  have Hb:¬ (k:Int) < (xs.length:Int):=by omega
  have HP:=mA (zGz (p:=p) (xs:=xs) (fun j hj=>HK.out.2 j hj (by omega)))
  go_wp2
  go_ret
  exact ⟨zAb (zAg HP.out.symm),HK.out.1⟩
theorem zIx (v:Value) (xs:List Scu.Message) (w:World) (hv:IsRow 43 8 80 MsgE w 0 v xs) :
 Calls Tryd.prog 10 #[v,.func (.func 14) #[] #[]] w fun e w'=>e=.returned (.int .i64 (idxI (fun m:Scu.Message=>decide (m.tq=2) && decide (m.kind=3)) xs))/\Below w.heap.size w w':=by
 obtain ⟨p,hp⟩:∃ p:Scu.Message->Bool,p=fun m=>decide (m.tq=2) && decide (m.kind=3):=⟨_,rfl⟩
 have Hg:=mA (show ∀ m:Scu.Message,(decide (m.tq=2) && decide (m.kind=3))=p m from fun m=>by rw [hp])
 rw [<- hp]
 clear hp
 obtain ⟨⟨A',c',css,rfl,_,h2,h3,hr,h4⟩,hl⟩:=hv
 unfold R47 at hl
 have R1:=mA (mB h2 (mB h3 (mB hr h4)))
 clear h2 h3 hr h4
 go_enter Tryd.func10,Tryd.ntmps10
 go_wp2
 go_loopw [8] (fun i wr=>∃ k:Nat,k<=xs.length/\i=.int .i64 k/\Hid (Below w.heap.size w wr/\∀ j (hj:j < xs.length),j < k->p xs[j]=false)) (fun i _=>xs.length - (intOf i).toNat)
 case atStart=>exact ⟨0,mE _,rfl,mA ⟨mG _ _,fun j _ h=>by omega⟩⟩
 case round =>
  obtain ⟨k,hk,rfl,HK⟩:=hrel
  by_cases He:k < xs.length
  ·have Hb:(k:Int) < (xs.length:Int):=by omega
   obtain ⟨gx,o,cs1,rfl,hg,_,hc,xv,Hh,Hc⟩:=zCo R1.out.1 R1.out.2.1 (by decide) R1.out.2.2.1 R1.out.2.2.2 He
   subst Hh
   obtain ⟨m,hm⟩:=mK (xs[k])
   rw [hm] at hc Hc
   obtain ⟨A,n,c,rfl⟩:=Hc.form
   have Ha:=fun (j:Nat) (u:Value) (hj:_[j]? = some u)=>(HK.out.1.cell (p:=⟨gx,o+(k*8+j),none⟩) hg).trans (hc j u hj)
   have c0:wr.cell? ⟨gx,o+k*8,none⟩=some (.int .i64 m.kind):=Ha 0 _ rfl
   have c1:wr.cell? ⟨gx,o+k*8+1,none⟩=some (.int .i64 m.from_):=Ha 1 _ rfl
   have c2:wr.cell? ⟨gx,o+k*8+2,none⟩=some (.int .i64 m.tq):=Ha 2 _ rfl
   have c3:wr.cell? ⟨gx,o+k*8+3,none⟩=some (.int .i64 m.view):=Ha 3 _ rfl
   have c4:wr.cell? ⟨gx,o+k*8+4,none⟩=some (.int .i64 m.normal):=Ha 4 _ rfl
   have c5:wr.cell? ⟨gx,o+k*8+5,none⟩=some (.int .i64 m.commit):=Ha 5 _ rfl
   have c6:wr.cell? ⟨gx,o+k*8+6,none⟩=some (.int .i64 m.n):=Ha 6 _ rfl
   have c7:wr.cell? ⟨gx,o+k*8+7,none⟩=some (.slice A n c):=Ha 7 _ rfl
   have HM:=mA hm
   clear hm hc Ha Hc
   go_wp2_with fail
   refine (zMf m A n c wr).mono ?_;rintro e w2 ⟨rfl,h2⟩
   have HW:=mA (HK.out.1.trans (h2.mono HK.out.1.size))
   obtain ⟨b,Hd⟩:=mK (p m)
   have Hf:=mA Hd
   rw [show ((decide (m.tq=2) && decide (m.kind=3)))=b from (Hg.out m).trans Hd]
   clear Hd h2 c0 c1 c2 c3 c4 c5 c6 c7
   cases b with
   | true =>
     have HP:=mA (zIv (p:=p) He (by rw [HM.out];exact Hf.out) HK.out.2)
     go_wp2
     go_ret
     exact ⟨zAb (zAg HP.out.symm),HW.out⟩
   | false =>
     have HN:=mA (show ∀ j (hj:j < xs.length),j < k+1->p xs[j]=false from fun j hj Hi=>by
      by_cases e:j=k
      ·subst e;rw [HM.out];exact Hf.out
      exact HK.out.2 j hj (by omega))
     go_wp2
     go_roundw
     case rel=>first | exact ⟨k+1,by omega,rfl,mA ⟨HW.out,HN.out⟩⟩ | ((repeat apply Exists.intro);exact ⟨⟨k+1,by omega,rfl,mA ⟨HW.out,HN.out⟩⟩,rfl⟩)
     case measure=>first | (simp only [intOf];omega) | (simp [intOf];omega)
  have Hb:¬ (k:Int) < (xs.length:Int):=by omega
  have HP:=mA (zGz (p:=p) (xs:=xs) (fun j hj=>HK.out.2 j hj (by omega)))
  go_wp2
  go_ret
  exact ⟨zAb (zAg HP.out.symm),HK.out.1⟩
end Go.Proofs.YtjnjhmkgfjikfaaDoor
