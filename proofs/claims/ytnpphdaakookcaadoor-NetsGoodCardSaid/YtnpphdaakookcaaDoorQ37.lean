/- Part 37: words and walks under the laws of the whole. -/
import Derived.Test.YtnpphdaakookcaaDoorQ36
set_option linter.unusedVariables false
set_option linter.unusedSimpArgs false
set_option maxHeartbeats 4000000
set_option maxRecDepth 100000
namespace Go.Proofs.YtnpphdaakookcaaDoor
open Go.RowKit
theorem genW {P:World->Prop} {W:World} (h:∀ W',W'=W->P W'):P W:=h W rfl
theorem joined {G R:Prop} (h:G->R) (g:G):R:=h g
theorem zBr {w W:World} {g B:Nat} (hl:Below B w W) (hg:B<=g) (a b c d e f x y z:Value):Below B w (((((((((W.setCell ⟨g,0,none⟩ a).setCell ⟨g,1,none⟩ b).setCell ⟨g,2,none⟩ c).setCell ⟨g,3,none⟩ d).setCell ⟨g,4,none⟩ e).setCell ⟨g,5,none⟩ f).setCell ⟨g,6,none⟩ x).setCell ⟨g,7,none⟩ y).setCell ⟨g,8,none⟩ z) :=
 ((((((((hl.setCell (p:=⟨g,0,none⟩) hg a).setCell (p:=⟨g,1,none⟩) hg b).setCell (p:=⟨g,2,none⟩) hg c).setCell (p:=⟨g,3,none⟩) hg d).setCell (p:=⟨g,4,none⟩) hg e).setCell (p:=⟨g,5,none⟩) hg f).setCell (p:=⟨g,6,none⟩) hg x).setCell (p:=⟨g,7,none⟩) hg y).setCell (p:=⟨g,8,none⟩) hg z
theorem zQe {W:World} {g:Nat} {t:TypeId} {u0 u1 u2 u3 u4 u5 u6 u7 u8:Value} (h:Blk W g t #[u0,u1,u2,u3,u4,u5,u6,u7,u8]) (a b c d e f x y z:Value):Blk (((((((((W.setCell ⟨g,0,none⟩ a).setCell ⟨g,1,none⟩ b).setCell ⟨g,2,none⟩ c).setCell ⟨g,3,none⟩ d).setCell ⟨g,4,none⟩ e).setCell ⟨g,5,none⟩ f).setCell ⟨g,6,none⟩ x).setCell ⟨g,7,none⟩ y).setCell ⟨g,8,none⟩ z) g t #[a,b,c,d,e,f,x,y,z]:=by
 have h0:Blk _ g t #[a,u1,u2,u3,u4,u5,u6,u7,u8]:=h.set_ 0 a
 have h1:Blk _ g t #[a,b,u2,u3,u4,u5,u6,u7,u8]:=h0.set_ 1 b
 have h2:Blk _ g t #[a,b,c,u3,u4,u5,u6,u7,u8]:=h1.set_ 2 c
 have h3:Blk _ g t #[a,b,c,d,u4,u5,u6,u7,u8]:=h2.set_ 3 d
 have h4:Blk _ g t #[a,b,c,d,e,u5,u6,u7,u8]:=h3.set_ 4 e
 have h5:Blk _ g t #[a,b,c,d,e,f,u6,u7,u8]:=h4.set_ 5 f
 have h6:Blk _ g t #[a,b,c,d,e,f,x,u7,u8]:=h5.set_ 6 x
 have h7:Blk _ g t #[a,b,c,d,e,f,x,y,u8]:=h6.set_ 7 y
 have h8:Blk _ g t #[a,b,c,d,e,f,x,y,z]:=h7.set_ 8 z
 exact h8
theorem zCx {W:World} {g:Nat} {t:TypeId} {cs:List Value} {m:Nat} (hm:cs.length=m) (hg:W.heap.size=g):Src1 (W.alloc (.cells cs.toArray t)) m (.slice (some ⟨g,0,none⟩) 1 1) 1 cs:=by
 subst hg
 exact zOs hm
structure ActI (w:World) (B:Nat) (v:Value) (l:List Scu.Raw) (k:Nat) (ov:Value) (wr:World):Prop where
 out:∃ css,OwnR 40 9 80 ActE wr w.heap.size ov ((l.take k).map (Scu.rawAct 3)) css
 raws:IsRaws wr B v l
 low:Below w.heap.size w wr
theorem ActI.below {w wr w':World} {B:Nat} {v:Value} {l:List Scu.Raw} {k:Nat} {ov:Value} (h:ActI w B v l k ov wr) (hb:Below wr.heap.size wr w'):ActI w B v l k ov w' :=
 ⟨let ⟨css,h⟩:=h.out;⟨css,h.same (B:=0) (Ts:=[40]) (by simp) (Same.below hb) (fun _ _ h=>h)⟩,h.raws.below hb,h.low.trans (hb.mono h.low.size)⟩
theorem ActI.push {w P w4:World} {B k:Nat} {v ov v4:Value} {l:List Scu.Raw} {a:Scu.Act} {css:List (List Value)} (h:ActI w B v l k ov P) (hB:B<=w.heap.size) (hf:OwnR 40 9 80 ActE P w.heap.size ov ((l.take k).map (Scu.rawAct 3)) css) (hk:k < l.length) (ha:Scu.rawAct 3 l[k]=a) (hm:(k+1)*80<=R47)
 (h4:w4.ownsRow w.heap.size 40 9 v4 (k+1) (css.flatten ++ actV a)) (hg:P.grownBy w4 ov.ownBlock):ActI w B v l (k+1) v4 w4:=by
 subst ha
 have Ha:((l.take k).map (Scu.rawAct 3)).length=k:=by rw [List.length_map,List.length_take];omega
 have hs:Same [83] B P w4:=Same.own hf.row hg hB (by decide)
 have hp:=hf.push (w':=w4) (x:=Scu.rawAct 3 l[k]) (cs:=actV (Scu.rawAct 3 l[k])) (by rw [Ha];exact hm) rfl rfl (by rw [Ha];exact h4) (fun _ _ h=>h)
 refine ⟨⟨css ++ [actV (Scu.rawAct 3 l[k])],?_⟩,h.raws.same (by simp) hs,h.low.grown hg h.low.size (fun q hq=>(hf.row.lt q hq).1)⟩
 rw [List.take_succ_eq_append_getElem hk,List.map_append]
 exact hp
theorem zCb (a:Scu.Act):∀ v ∈ actV a,v.oneCell'=true:=by
 intro v hv
 simp only [actV,List.mem_cons,List.not_mem_nil,or_false] at hv
 rcases hv with rfl | rfl | rfl | rfl | rfl | rfl | rfl | rfl | rfl <;> rfl
theorem zWy:InI 0:=by unfold InI;omega
theorem yAe {n:Int} (h:InI n):InI (n.tdiv 60):=by
 unfold InI at h ⊢
 rcases Int.le_total 0 n with h0 | h0
 ·have:n.tdiv 60=n / 60:=Int.tdiv_eq_ediv_of_nonneg h0
  rw [this];omega
 have h1:n.tdiv 60 = -((-n).tdiv 60):=by rw [Int.neg_tdiv];simp
 have h2:(-n).tdiv 60=(-n) / 60:=Int.tdiv_eq_ediv_of_nonneg (by omega)
 rw [h1,h2];omega
theorem zTq {n:Int} (h:InI n):IntKind.i64.wrap n=n:=by
 obtain ⟨h0,h1⟩:=h
 unfold IntKind.wrap
 simp [IntKind.signed,IntKind.bits]
 omega
set_option maxHeartbeats 40000000 in
theorem zTr (v:Value) (l:List Scu.Raw) (most:Nat) (w:World) (B:Nat) (hB:B<=w.heap.size) (hl:IsRaws w B v l) (ht:Tab w) (hm:most<=1000) :
 Calls Tryd.prog 11 #[v,.int .i64 most,.int .i64 3] w fun e w'=>(∃ A c css,e=.returned (.slice A (Scu.rawActs l most 3).length c)/\OwnR 40 9 80 ActE w' w.heap.size (.slice A (Scu.rawActs l most 3).length c) (Scu.rawActs l most 3) css)/\Below w.heap.size w w':=by
 obtain ⟨Al,cl,rfl,Gd⟩:=hl.form'
 have Ku:=hl.len
 unfold R47 at Ku
 have HT:=mA ht
 have HI:=mA (show ActI w B (.slice Al l.length cl) l 0 (.slice none 0 0) w from ⟨⟨_,OwnR.nil_⟩,hl,mG _ _⟩)
 clear ht hl
 go_enter Tryd.func11,Tryd.ntmps11
 go_wp2_with fail
 go_loopw [7,8] (fun o i wr=>∃ (k:Nat) (Ao:Option Addr) (co:Nat),k<=most/\k<=l.length/\i=.int .i64 k/\o=.slice Ao k co/\Hid (ActI w B (.slice Al l.length cl) l k (.slice Ao k co) wr)) (fun _ i _=>most - (intOf i).toNat)
 case atStart=>exact ⟨0,none,0,mE _,mE _,rfl,rfl,HI⟩
 case round =>
  obtain ⟨k,Ao,co,Ge,Gf,rfl,rfl,HR⟩:=hrel
  have Hy:=hB
  by_cases Ht:k < l.length
  ·by_cases hlm:k < most
   ·have Kv:(k:Int) < (l.length:Int):=by omega
    have Kw:(k:Int) < (most:Int):=by omega
    obtain ⟨gl,ol,cl',e,Gg,_,Kx⟩:=zXk HR.out.raws Ht
    obtain rfl:Al=some ⟨gl,ol,none⟩:=by cases e;rfl
    clear e cl'
    obtain ⟨x,hx⟩:=mK (l[k])
    have Kn:∀ j,j < 4->wr.cell? ⟨gl,ol+k*4+j,none⟩=(rawV x)[j]?:=fun j hj=>by rw [<- hx];exact HR.out.raws.cell_at Ht j hj
    rw [hx] at Kx
    have c0:wr.cell? ⟨gl,ol+k*4,none⟩=some (.int .i64 x.kind):=Kn 0 (by decide)
    have c1:wr.cell? ⟨gl,ol+k*4+1,none⟩=some (.int .i64 x.a):=Kn 1 (by decide)
    have c2:wr.cell? ⟨gl,ol+k*4+2,none⟩=some (.int .i64 x.b):=Kn 2 (by decide)
    have c3:wr.cell? ⟨gl,ol+k*4+3,none⟩=some (.int .i64 x.c):=Kn 3 (by decide)
    have HX:=mA hx
    have Hm:=mA Kx
    clear Kn hx Kx
    go_upto_region 6 with fail
    have Hz:=zAa wr (.cells #[.int .i64 x.kind,.int .i64 x.a,.int .i64 x.b,.int .i64 x.c] 83)
    have Ko:=Blk.new wr 83 #[.int .i64 x.kind,.int .i64 x.a,.int .i64 x.b,.int .i64 x.c]
    obtain ⟨Wd,Vk⟩:=mJ (wr.alloc (.cells #[.int .i64 x.kind,.int .i64 x.a,.int .i64 x.b,.int .i64 x.c] 83))
    rw [<- Vk] at Hz Ko ⊢
    have HW:=mA (mB (HR.out.below Hz) Ko)
    obtain ⟨gw,Vl⟩:=mK (wr.heap.size)
    obtain ⟨b0,b1,b2,b3⟩:=cz4 Ko
    have bl:=Ko.lt
    rw [Vl] at b0 b1 b2 b3 bl HW
    clear Vk Hz Ko c0 c1 c2 c3
    obtain ⟨pa,Vm⟩:=mK (Scu.picked x.a 3)
    obtain ⟨pb,Vn⟩:=mK (Scu.picked x.b 3)
    obtain ⟨pc,Vo⟩:=mK (Scu.picked x.c 5)
    obtain ⟨pn,Vp⟩:=mK (Scu.picked x.a 60)
    have HP:=mA (mB Vm (mB Vn (mB Vo Vp)))
    clear Vm Vn Vo Vp
    go_wp2_with fail
    try rw [Vl]
    obtain ⟨S,Hn⟩:∃ S:World->Prop,S=fun w'=>w'.cell? ⟨gw,0,none⟩=some (.int .i64 x.kind)/\w'.cell? ⟨gw,1,none⟩=some (.int .i64 x.a)/\w'.cell? ⟨gw,2,none⟩=some (.int .i64 x.b)/\w'.cell? ⟨gw,3,none⟩=some (.int .i64 x.c):=⟨_,rfl⟩
    have Hf:S Wd.drew:=by rw [Hn];exact ⟨b0,b1,b2,b3⟩
    have Hz:=(mG Wd.heap.size Wd).drew.alloc (mC _) (.cells #[.int .i64 0,.int .i64 0,.int .i64 0,.int .i64 0,.int .i64 0,.int .i64 0,.int .i64 0,.int .i64 0,.string ByteArray.empty] 40)
    have Hu:S (Wd.drew.alloc (.cells #[.int .i64 0,.int .i64 0,.int .i64 0,.int .i64 0,.int .i64 0,.int .i64 0,.int .i64 0,.int .i64 0,.string ByteArray.empty] 40)):=by rw [Hn];exact ⟨cW Hz bl b0,cW Hz bl b1,cW Hz bl b2,cW Hz bl b3⟩
    have Hk:=zAh (B:=Wd.heap.size) (g:=Wd.heap.size) (mC _) [.int .i64 0,.int .i64 pa,.int .i64 pb,.int .i64 pc,.int .i64 pn,.int .i64 0,.int .i64 0,.int .i64 0,.string ByteArray.empty] 0 _ _ Hz
    have Kl:S ((Wd.drew.alloc (.cells #[.int .i64 0,.int .i64 0,.int .i64 0,.int .i64 0,.int .i64 0,.int .i64 0,.int .i64 0,.int .i64 0,.string ByteArray.empty] 40)).setCells Wd.heap.size 0 [.int .i64 0,.int .i64 pa,.int .i64 pb,.int .i64 pc,.int .i64 pn,.int .i64 0,.int .i64 0,.int .i64 0,.string ByteArray.empty]):=by rw [Hn];exact ⟨cW Hk bl b0,cW Hk bl b1,cW Hk bl b2,cW Hk bl b3⟩
    refine joined (G:=?G) (fun key=>?first) ?rest
    case first =>
     refine wp_region_held (S:=S) (by kernel_rfl) ?_
     change wpAnyH _ _ _ _ _ _ _ _ Wd.drew
     refine tkHs [0,1,2,4,5,7,8,10,11] (by kernel_rfl) (fun _ _ _ _ _ h=>h) Hf ?_
     iterate 9
      refine tkc (v:=?_) rfl (Or.inl ⟨by rfl,?_⟩) ?_
      rotate_left
      ·(intro wv Hh;rw [Hn] at Hh;obtain ⟨s0,s1,s2,s3⟩:=Hh;go_simp;(try with_reducible rfl))
      (try simp only [Act.put,zp1,zp2,zp3])
     refine tkz ?_
     refine wpAnyH_all (rs:=[3,14]) (by kernel_rfl) (by simp) ?_
     intro ii Hv
     simp only [List.mem_cons,List.not_mem_nil,or_false] at Hv
     rcases Hv with rfl | rfl
     ·refine wpOp_step (o:=_) rfl (fun K0 Ky=>?_)
      go_simp
      refine (zAt _ _ Hm.out.2.1 (by decide) (by decide) _).mono ?_;rintro e w' ⟨rfl,rfl⟩
      rw [HP.out.1]
      refine Ky _ _ ⟨Hf,?_⟩
      (try simp only [Act.put,zp1,zp2,zp3])
      refine wpAnyH_all (rs:=[6,14]) (by kernel_rfl) (by simp) ?_
      intro ii Hv
      simp only [List.mem_cons,List.not_mem_nil,or_false] at Hv
      rcases Hv with rfl | rfl
      ·refine wpOp_step (o:=_) rfl (fun K1 Kp=>?_)
       go_simp
       refine (zAt _ _ Hm.out.2.2.1 (by decide) (by decide) _).mono ?_;rintro e w' ⟨rfl,rfl⟩
       rw [HP.out.2.1]
       refine Kp _ _ ⟨Hf,?_⟩
       (try simp only [Act.put,zp1,zp2,zp3])
       refine wpAnyH_all (rs:=[9,14]) (by kernel_rfl) (by simp) ?_
       intro ii Hv
       simp only [List.mem_cons,List.not_mem_nil,or_false] at Hv
       rcases Hv with rfl | rfl
       ·refine wpOp_step (o:=_) rfl (fun K2 Kh=>?_)
        go_simp
        refine (zAt _ _ Hm.out.2.2.2 (by decide) (by decide) _).mono ?_;rintro e w' ⟨rfl,rfl⟩
        rw [HP.out.2.2.1]
        refine Kh _ _ ⟨Hf,?_⟩
        (try simp only [Act.put,zp1,zp2,zp3])
        refine wpAnyH_all (rs:=[12,14]) (by kernel_rfl) (by simp) ?_
        intro ii Hv
        simp only [List.mem_cons,List.not_mem_nil,or_false] at Hv
        rcases Hv with rfl | rfl
        ·refine wpOp_step (o:=_) rfl (fun K3 Ka=>?_)
         go_simp
         refine (zAt _ _ Hm.out.2.1 (by decide) (by decide) _).mono ?_;rintro e w' ⟨rfl,rfl⟩
         rw [HP.out.2.2.2]
         refine Ka _ _ ⟨Hf,?_⟩
         (try simp only [Act.put,zp1,zp2,zp3])
         refine tkH 13 (v:=?_) rfl (by kernel_rfl) (fun _ _ _ h=>h) (Or.inl ⟨by rfl,?_⟩) Hf ?_
         rotate_left
         ·(intro wv Hh;rw [Hn] at Hh;obtain ⟨s0,s1,s2,s3⟩:=Hh;go_simp;(try with_reducible rfl))
         (try simp only [Act.put,zp1,zp2,zp3])
         refine alH 14 (by kernel_rfl) (wpOp_step (o:=_) rfl fun KX Kb=>?_)
         go_simp
         refine Kb _ _ ⟨Hu,?_⟩
         (try simp only [Act.put,zp1,zp2,zp3])
         have Hf:=Hu
         refine alH 15 (by kernel_rfl) (wpOp_step (o:=_) rfl fun KZ Kc=>?_)
         rw [if_pos (by rfl)]
         refine wp_store_mid 40 (.tmp 10) (.tmp 40) rfl Wd.heap.size 0 #[.int .i64 0,.int .i64 pa,.int .i64 pb,.int .i64 pc,.int .i64 pn,.int .i64 0,.int .i64 0,.int .i64 0,.string ByteArray.empty] rfl rfl (zAs (Blk.new' (w:=Wd.drew) (t:=40) (cs:=#[.int .i64 0,.int .i64 0,.int .i64 0,.int .i64 0,.int .i64 0,.int .i64 0,.int .i64 0,.int .i64 0,.string ByteArray.empty]) rfl)) (by kernel_rfl) (all_oneCell_toArray (cs:=[.int .i64 0,.int .i64 pa,.int .i64 pb,.int .i64 pc,.int .i64 pn,.int .i64 0,.int .i64 0,.int .i64 0,.string ByteArray.empty]) (zCb ⟨0,pa,pb,pc,pn,Scu.op0⟩)) ?_
         refine Kc _ _ ⟨Kl,?_⟩
         (try simp only [Act.put,zp1,zp2,zp3])
         refine wpAnyH_done (by kernel_rfl) ?_ _
         exact key
        refine wpOp_step (o:=_) rfl (fun KX Kb=>?_)
        go_simp
        refine Kb _ _ ⟨Hu,?_⟩
        (try simp only [Act.put,zp1,zp2,zp3])
        have Hf:=Hu
        refine alH 12 (by kernel_rfl) (wpOp_step (o:=_) rfl fun K3 Ka=>?_)
        go_simp
        refine (zAt _ _ Hm.out.2.1 (by decide) (by decide) _).mono ?_;rintro e w' ⟨rfl,rfl⟩
        rw [HP.out.2.2.2]
        refine Ka _ _ ⟨Hf,?_⟩
        (try simp only [Act.put,zp1,zp2,zp3])
        refine tkH 13 (v:=?_) rfl (by kernel_rfl) (fun _ _ _ h=>h) (Or.inl ⟨by rfl,?_⟩) Hf ?_
        rotate_left
        ·(intro wv Hh;rw [Hn] at Hh;obtain ⟨s0,s1,s2,s3⟩:=Hh;go_simp;(try with_reducible rfl))
        (try simp only [Act.put,zp1,zp2,zp3])
        refine alH 15 (by kernel_rfl) (wpOp_step (o:=_) rfl fun KZ Kc=>?_)
        rw [if_pos (by rfl)]
        refine wp_store_mid 40 (.tmp 10) (.tmp 40) rfl Wd.heap.size 0 #[.int .i64 0,.int .i64 pa,.int .i64 pb,.int .i64 pc,.int .i64 pn,.int .i64 0,.int .i64 0,.int .i64 0,.string ByteArray.empty] rfl rfl (zAs (Blk.new' (w:=Wd.drew) (t:=40) (cs:=#[.int .i64 0,.int .i64 0,.int .i64 0,.int .i64 0,.int .i64 0,.int .i64 0,.int .i64 0,.int .i64 0,.string ByteArray.empty]) rfl)) (by kernel_rfl) (all_oneCell_toArray (cs:=[.int .i64 0,.int .i64 pa,.int .i64 pb,.int .i64 pc,.int .i64 pn,.int .i64 0,.int .i64 0,.int .i64 0,.string ByteArray.empty]) (zCb ⟨0,pa,pb,pc,pn,Scu.op0⟩)) ?_
        refine Kc _ _ ⟨Kl,?_⟩
        (try simp only [Act.put,zp1,zp2,zp3])
        refine wpAnyH_done (by kernel_rfl) ?_ _
        exact key
       refine wpOp_step (o:=_) rfl (fun KX Kb=>?_)
       go_simp
       refine Kb _ _ ⟨Hu,?_⟩
       (try simp only [Act.put,zp1,zp2,zp3])
       have Hf:=Hu
       refine alH 9 (by kernel_rfl) (wpOp_step (o:=_) rfl fun K2 Kh=>?_)
       go_simp
       refine (zAt _ _ Hm.out.2.2.2 (by decide) (by decide) _).mono ?_;rintro e w' ⟨rfl,rfl⟩
       rw [HP.out.2.2.1]
       refine Kh _ _ ⟨Hf,?_⟩
       (try simp only [Act.put,zp1,zp2,zp3])
       refine alH 12 (by kernel_rfl) (wpOp_step (o:=_) rfl fun K3 Ka=>?_)
       go_simp
       refine (zAt _ _ Hm.out.2.1 (by decide) (by decide) _).mono ?_;rintro e w' ⟨rfl,rfl⟩
       rw [HP.out.2.2.2]
       refine Ka _ _ ⟨Hf,?_⟩
       (try simp only [Act.put,zp1,zp2,zp3])
       refine tkH 13 (v:=?_) rfl (by kernel_rfl) (fun _ _ _ h=>h) (Or.inl ⟨by rfl,?_⟩) Hf ?_
       rotate_left
       ·(intro wv Hh;rw [Hn] at Hh;obtain ⟨s0,s1,s2,s3⟩:=Hh;go_simp;(try with_reducible rfl))
       (try simp only [Act.put,zp1,zp2,zp3])
       refine alH 15 (by kernel_rfl) (wpOp_step (o:=_) rfl fun KZ Kc=>?_)
       rw [if_pos (by rfl)]
       refine wp_store_mid 40 (.tmp 10) (.tmp 40) rfl Wd.heap.size 0 #[.int .i64 0,.int .i64 pa,.int .i64 pb,.int .i64 pc,.int .i64 pn,.int .i64 0,.int .i64 0,.int .i64 0,.string ByteArray.empty] rfl rfl (zAs (Blk.new' (w:=Wd.drew) (t:=40) (cs:=#[.int .i64 0,.int .i64 0,.int .i64 0,.int .i64 0,.int .i64 0,.int .i64 0,.int .i64 0,.int .i64 0,.string ByteArray.empty]) rfl)) (by kernel_rfl) (all_oneCell_toArray (cs:=[.int .i64 0,.int .i64 pa,.int .i64 pb,.int .i64 pc,.int .i64 pn,.int .i64 0,.int .i64 0,.int .i64 0,.string ByteArray.empty]) (zCb ⟨0,pa,pb,pc,pn,Scu.op0⟩)) ?_
       refine Kc _ _ ⟨Kl,?_⟩
       (try simp only [Act.put,zp1,zp2,zp3])
       refine wpAnyH_done (by kernel_rfl) ?_ _
       exact key
      refine wpOp_step (o:=_) rfl (fun KX Kb=>?_)
      go_simp
      refine Kb _ _ ⟨Hu,?_⟩
      (try simp only [Act.put,zp1,zp2,zp3])
      have Hf:=Hu
      refine alH 6 (by kernel_rfl) (wpOp_step (o:=_) rfl fun K1 Kp=>?_)
      go_simp
      refine (zAt _ _ Hm.out.2.2.1 (by decide) (by decide) _).mono ?_;rintro e w' ⟨rfl,rfl⟩
      rw [HP.out.2.1]
      refine Kp _ _ ⟨Hf,?_⟩
      (try simp only [Act.put,zp1,zp2,zp3])
      refine alH 9 (by kernel_rfl) (wpOp_step (o:=_) rfl fun K2 Kh=>?_)
      go_simp
      refine (zAt _ _ Hm.out.2.2.2 (by decide) (by decide) _).mono ?_;rintro e w' ⟨rfl,rfl⟩
      rw [HP.out.2.2.1]
      refine Kh _ _ ⟨Hf,?_⟩
      (try simp only [Act.put,zp1,zp2,zp3])
      refine alH 12 (by kernel_rfl) (wpOp_step (o:=_) rfl fun K3 Ka=>?_)
      go_simp
      refine (zAt _ _ Hm.out.2.1 (by decide) (by decide) _).mono ?_;rintro e w' ⟨rfl,rfl⟩
      rw [HP.out.2.2.2]
      refine Ka _ _ ⟨Hf,?_⟩
      (try simp only [Act.put,zp1,zp2,zp3])
      refine tkH 13 (v:=?_) rfl (by kernel_rfl) (fun _ _ _ h=>h) (Or.inl ⟨by rfl,?_⟩) Hf ?_
      rotate_left
      ·(intro wv Hh;rw [Hn] at Hh;obtain ⟨s0,s1,s2,s3⟩:=Hh;go_simp;(try with_reducible rfl))
      (try simp only [Act.put,zp1,zp2,zp3])
      refine alH 15 (by kernel_rfl) (wpOp_step (o:=_) rfl fun KZ Kc=>?_)
      rw [if_pos (by rfl)]
      refine wp_store_mid 40 (.tmp 10) (.tmp 40) rfl Wd.heap.size 0 #[.int .i64 0,.int .i64 pa,.int .i64 pb,.int .i64 pc,.int .i64 pn,.int .i64 0,.int .i64 0,.int .i64 0,.string ByteArray.empty] rfl rfl (zAs (Blk.new' (w:=Wd.drew) (t:=40) (cs:=#[.int .i64 0,.int .i64 0,.int .i64 0,.int .i64 0,.int .i64 0,.int .i64 0,.int .i64 0,.int .i64 0,.string ByteArray.empty]) rfl)) (by kernel_rfl) (all_oneCell_toArray (cs:=[.int .i64 0,.int .i64 pa,.int .i64 pb,.int .i64 pc,.int .i64 pn,.int .i64 0,.int .i64 0,.int .i64 0,.string ByteArray.empty]) (zCb ⟨0,pa,pb,pc,pn,Scu.op0⟩)) ?_
      refine Kc _ _ ⟨Kl,?_⟩
      (try simp only [Act.put,zp1,zp2,zp3])
      refine wpAnyH_done (by kernel_rfl) ?_ _
      exact key
     refine wpOp_step (o:=_) rfl (fun KX Kb=>?_)
     go_simp
     refine Kb _ _ ⟨Hu,?_⟩
     (try simp only [Act.put,zp1,zp2,zp3])
     have Hf:=Hu
     refine alH 3 (by kernel_rfl) (wpOp_step (o:=_) rfl fun K0 Ky=>?_)
     go_simp
     refine (zAt _ _ Hm.out.2.1 (by decide) (by decide) _).mono ?_;rintro e w' ⟨rfl,rfl⟩
     rw [HP.out.1]
     refine Ky _ _ ⟨Hf,?_⟩
     (try simp only [Act.put,zp1,zp2,zp3])
     refine alH 6 (by kernel_rfl) (wpOp_step (o:=_) rfl fun K1 Kp=>?_)
     go_simp
     refine (zAt _ _ Hm.out.2.2.1 (by decide) (by decide) _).mono ?_;rintro e w' ⟨rfl,rfl⟩
     rw [HP.out.2.1]
     refine Kp _ _ ⟨Hf,?_⟩
     (try simp only [Act.put,zp1,zp2,zp3])
     refine alH 9 (by kernel_rfl) (wpOp_step (o:=_) rfl fun K2 Kh=>?_)
     go_simp
     refine (zAt _ _ Hm.out.2.2.2 (by decide) (by decide) _).mono ?_;rintro e w' ⟨rfl,rfl⟩
     rw [HP.out.2.2.1]
     refine Kh _ _ ⟨Hf,?_⟩
     (try simp only [Act.put,zp1,zp2,zp3])
     refine alH 12 (by kernel_rfl) (wpOp_step (o:=_) rfl fun K3 Ka=>?_)
     go_simp
     refine (zAt _ _ Hm.out.2.1 (by decide) (by decide) _).mono ?_;rintro e w' ⟨rfl,rfl⟩
     rw [HP.out.2.2.2]
     refine Ka _ _ ⟨Hf,?_⟩
     (try simp only [Act.put,zp1,zp2,zp3])
     refine tkH 13 (v:=?_) rfl (by kernel_rfl) (fun _ _ _ h=>h) (Or.inl ⟨by rfl,?_⟩) Hf ?_
     rotate_left
     ·(intro wv Hh;rw [Hn] at Hh;obtain ⟨s0,s1,s2,s3⟩:=Hh;go_simp;(try with_reducible rfl))
     (try simp only [Act.put,zp1,zp2,zp3])
     refine alH 15 (by kernel_rfl) (wpOp_step (o:=_) rfl fun KZ Kc=>?_)
     rw [if_pos (by rfl)]
     refine wp_store_mid 40 (.tmp 10) (.tmp 40) rfl Wd.heap.size 0 #[.int .i64 0,.int .i64 pa,.int .i64 pb,.int .i64 pc,.int .i64 pn,.int .i64 0,.int .i64 0,.int .i64 0,.string ByteArray.empty] rfl rfl (zAs (Blk.new' (w:=Wd.drew) (t:=40) (cs:=#[.int .i64 0,.int .i64 0,.int .i64 0,.int .i64 0,.int .i64 0,.int .i64 0,.int .i64 0,.int .i64 0,.string ByteArray.empty]) rfl)) (by kernel_rfl) (all_oneCell_toArray (cs:=[.int .i64 0,.int .i64 pa,.int .i64 pb,.int .i64 pc,.int .i64 pn,.int .i64 0,.int .i64 0,.int .i64 0,.string ByteArray.empty]) (zCb ⟨0,pa,pb,pc,pn,Scu.op0⟩)) ?_
     refine Kc _ _ ⟨Kl,?_⟩
     (try simp only [Act.put,zp1,zp2,zp3])
     refine wpAnyH_done (by kernel_rfl) ?_ _
     exact key
    case rest =>
     (try simp only [Act.put,zp1,zp2,zp3])
     have Ho:Blk ((Wd.drew.alloc (.cells #[.int .i64 0,.int .i64 0,.int .i64 0,.int .i64 0,.int .i64 0,.int .i64 0,.int .i64 0,.int .i64 0,.string ByteArray.empty] 40)).setCells Wd.heap.size 0 [.int .i64 0,.int .i64 pa,.int .i64 pb,.int .i64 pc,.int .i64 pn,.int .i64 0,.int .i64 0,.int .i64 0,.string ByteArray.empty]) Wd.heap.size 40 #[.int .i64 0,.int .i64 pa,.int .i64 pb,.int .i64 pc,.int .i64 pn,.int .i64 0,.int .i64 0,.int .i64 0,.string ByteArray.empty]:=zJi (xs:=[.int .i64 0,.int .i64 0,.int .i64 0,.int .i64 0,.int .i64 0,.int .i64 0,.int .i64 0,.int .i64 0,.string ByteArray.empty]) (Blk.new' (w:=Wd.drew) (g:=Wd.heap.size) rfl) rfl
     have Vq:gw < Wd.heap.size:=bl
     obtain ⟨W1,Vr⟩:=mJ ((Wd.drew.alloc (.cells #[.int .i64 0,.int .i64 0,.int .i64 0,.int .i64 0,.int .i64 0,.int .i64 0,.int .i64 0,.int .i64 0,.string ByteArray.empty] 40)).setCells Wd.heap.size 0 [.int .i64 0,.int .i64 pa,.int .i64 pb,.int .i64 pc,.int .i64 pn,.int .i64 0,.int .i64 0,.int .i64 0,.string ByteArray.empty])
     change Exit.then _ _ _ _ ((Wd.drew.alloc (.cells #[.int .i64 0,.int .i64 0,.int .i64 0,.int .i64 0,.int .i64 0,.int .i64 0,.int .i64 0,.int .i64 0,.string ByteArray.empty] 40)).setCells Wd.heap.size 0 [.int .i64 0,.int .i64 pa,.int .i64 pb,.int .i64 pc,.int .i64 pn,.int .i64 0,.int .i64 0,.int .i64 0,.string ByteArray.empty])
     rw [<- Vr] at Hk Ho ⊢
     obtain ⟨ga,Kq⟩:=mK (Wd.heap.size)
     have Ki:=mA (mB (HW.out.1.below Hk) (HW.out.2.same Hk))
     have b0:=Ki.out.2.cell 0
     have b1:=Ki.out.2.cell 1
     have b2:=Ki.out.2.cell 2
     have b3:=Ki.out.2.cell 3
     rw [Kq] at Ho Vq ⊢
     have a0:=Ho.cell 0
     have a1:=Ho.cell 1
     have a2:=Ho.cell 2
     have a3:=Ho.cell 3
     have a4:=Ho.cell 4
     have a5:=Ho.cell 5
     have a6:=Ho.cell 6
     have a7:=Ho.cell 7
     have a8:=Ho.cell 8
     simp only [List.getElem?_toArray,List.getElem?_cons_zero,List.getElem?_cons_succ] at b0 b1 b2 b3 a0 a1 a2 a3 a4 a5 a6 a7 a8
     have az:=Ho.frozen
     have al:=Ho.lt
     have Ks:=mA Ho
     have Hw:=mA Kq
     have Hr:=mA (show Below ga Wd W1 by rw [<- Kq];exact Hk)
     have Vw:w.heap.size<=W1.heap.size:=mD HW.out.1.low.size Hk.size
     have Vx:ga≠gw:=by omega
     have Vs:w.heap.size<=ga:=by rw [<- Kq];exact HW.out.1.low.size
     clear Vr Hk Ho Hz Hf Hu Kl Hn bl Vq Kq
     obtain ⟨pk,Kz⟩:=mK (Scu.picked x.kind 60)
     have Hq:=Scu.picked_lt (n:=x.kind) (many:=60) (by decide)
     rw [Kz] at Hq
     have Vy:=Hq.1
     have Vt:=Hq.2
     have Hx:=mA Kz
     clear Kz Hq
     go_wp2_with fail
     refine (zAt _ _ Hm.out.1 (by decide) (by decide) _).mono ?_;rintro e w' ⟨rfl,rfl⟩
     rw [Hx.out]
     by_cases h6:pk < 6
     ·obtain ⟨oq,Va⟩:=mK (Scu.rawOp ⟨x.kind.tdiv 60,x.b,x.c,0⟩)
      have HA:=mA (show Scu.rawAct 3 x=⟨1,pa,0,0,0,oq⟩ by simp only [Scu.rawAct];rw [Hx.out,if_pos h6,HP.out.1,Va])
      have Vz:=mA Va
      obtain ⟨kd,Kt⟩:=mK (x.kind.tdiv 60)
      have Vb:InI kd:=by rw [<- Kt];exact yAe Hm.out.1
      have Ga:=mA Kt
      have Gi:IntKind.i64.wrap (x.kind.tdiv 60)=kd:=by rw [Kt];exact zTq Vb
      have Gb:=mA Vb
      clear Va Kt Vb
      go_wp2_with fail
      obtain ⟨S,Hn⟩:∃ S:World->Prop,S=fun w'=>w'.cell? ⟨ga,1,none⟩=some (.int .i64 pa)/\w'.cell? ⟨gw,0,none⟩=some (.int .i64 x.kind)/\w'.cell? ⟨gw,2,none⟩=some (.int .i64 x.b)/\w'.cell? ⟨gw,3,none⟩=some (.int .i64 x.c):=⟨_,rfl⟩
      have Hf:S W1.drew:=by rw [Hn];exact ⟨a1,b0,b2,b3⟩
      refine zAq S 12 (by kernel_rfl) (fun Hs=>?_)
      change wpAnyE _ _ _ _ _ _ _ _ _ W1.drew
      refine tkEs 14 [0,1,2,3,4,5,6,7,8,9] (by kernel_rfl) (fun _ _ _ _ _ h=>h) Hs Hf ?_
      iterate 10
       refine tkc (v:=?_) rfl (Or.inl ⟨by rfl,?_⟩) ?_
       rotate_left
       ·(intro wv Hh;rw [Hn] at Hh;obtain ⟨s0,s1,s2,s3⟩:=Hh;go_simp;(try with_reducible rfl))
       (try simp only [Act.put,zp1,zp2,zp3])
      refine tkz (fun Hs=>?_)
      refine alE 10 (by kernel_rfl) (wpOp_step (o:=_) rfl fun KA Vc=>?_)
      go_simp
      refine (yBw ⟨kd,x.b,x.c,0⟩ ⟨Gb.out,Hm.out.2.2.1,Hm.out.2.2.2,zWy⟩ oq (by rw [<- Ga.out];exact Vz.out) _ ((HT.out.below (Ki.out.1.low)).drewN 1)).mono ?_;rintro en x1 ⟨rfl,k1⟩
      have nn1:Below W1.heap.size W1 x1:=(mG _ _).drew.trans k1
      have Vu:=mB (Ki.out.1.below nn1) (Ki.out.2.same nn1)
      have Hp:=Ks.out.same nn1
      have Vd:=Hr.out.trans (nn1.mono (by rw [<- Hw.out];exact Hr.out.size))
      obtain ⟨e0,-,e2,e3⟩:=cz4 Vu.2
      obtain ⟨-,y1⟩:=cz2 Hp
      have Hf:S x1:=by rw [Hn];exact ⟨y1,e0,e2,e3⟩
      refine Vc _ _ ⟨.inr Hf,?_⟩
      have Hs:=Hs.set (i:=10) (by rw [<- List.contains_iff_mem];kernel_rfl)
      (try simp only [Act.put,zp1,zp2,zp3])
      obtain ⟨W1,Vv⟩:=mJ (x1)
      rw [<- Vv] at Hp Vd Hf ⊢
      have Ks:=mA Hp
      have Hr:=mA Vd
      clear Vv Vu nn1 k1 e0 e2 e3 y1 Vd
      obtain ⟨a0,a1,a2,a3,a4,a5,a6,a7,a8⟩:=cz9 Hp
      have az:=Hp.frozen
      have al:=Hp.lt
      clear Hp
      refine tkE 11 14 (v:=?_) rfl (by kernel_rfl) (fun _ _ _ h=>h) (Or.inl ⟨by rfl,?_⟩) Hs Hf (fun Hs=>?_)
      rotate_left
      ·(intro wv Hh;rw [Hn] at Hh;obtain ⟨s0,s1,s2,s3⟩:=Hh;go_simp;(try with_reducible rfl))
      (try simp only [Act.put,zp1,zp2,zp3])
      refine alE 12 (by kernel_rfl) (wpOp_step (o:=_) rfl fun KB Ve=>?_)
      go_simp
      refine Ve _ _ ⟨.inl rfl,zAp (by kernel_rfl) ?_ _⟩
      (try simp only [Act.put,zp1,zp2,zp3])
      refine genW (P:=fun W=>Exit.inBlock _ _ _ _ W) (fun W2 Kj=>?_)
      have Hg:Below ga Wd W2:=by rw [Kj];exact id (zBr Hr.out (mC _) _ _ _ _ _ _ _ _ _)
      have Hl:Blk W2 ga 40 (actV (⟨1,pa,0,0,0,oq⟩:Scu.Act)).toArray:=by rw [Kj];exact id (zQe Ks.out _ _ _ _ _ _ _ _ _)
      clear Kj a0 a1 a2 a3 a4 a5 a6 a7 a8
      have hP:=(HW.out.1.below (by rw [Hw.out];exact Hg)).below (zAa _ (.cells (actV (⟨1,pa,0,0,0,oq⟩:Scu.Act)).toArray 40))
      obtain ⟨css,Hd⟩:=hP.out
      have Ha:=Hd.row
      rw [show ((l.take k).map (Scu.rawAct 3)).length=k by rw [List.length_map,List.length_take];omega] at Ha
      have He:=mA (mB hP Hd)
      have Hb:=mA Ha
      have Vf:w.heap.size<=W2.heap.size:=mD HW.out.1.low.size (by have:=Hg.size;exact this)
      have a0:=Hl.cell 0
      have a1:=Hl.cell 1
      have a2:=Hl.cell 2
      have a3:=Hl.cell 3
      have a4:=Hl.cell 4
      have a5:=Hl.cell 5
      have a6:=Hl.cell 6
      have a7:=Hl.cell 7
      have a8:=Hl.cell 8
      simp only [actV,List.getElem?_toArray,List.getElem?_cons_zero,List.getElem?_cons_succ] at a0 a1 a2 a3 a4 a5 a6 a7 a8
      clear Hg hP Hd Ha Hl
      go_wp2_with (at_builtin;refine zBc _ rfl (.tmp 120) (.tmp 122) 23 rfl zDt w.heap.size (.slice Ao k co) k css.flatten rfl Hb.out (.slice (some ⟨W2.heap.size,0,none⟩) 1 1) 1 (actV (⟨1,pa,0,0,0,oq⟩:Scu.Act)) rfl (zCx rfl (by simp)) (zCb _) (by unfold maxLen;omega) (by omega) (by simp;omega) ?_)
      intro v4 x4 h4 Hi _
      obtain ⟨A9,c9,rfl,_,_,_,_⟩:=zAg h4
      have Hj:=He.out.1.push Hy He.out.2 Ht (by rw [HX.out];exact HA.out) (by unfold R47;omega) h4 Hi
      have Hc:=mA Hj
      clear Hj h4 Hi He Hb
      go_wp2_with fail
      go_roundw
      case rel=>first | exact ⟨k+1,A9,c9,by omega,by omega,rfl,rfl,Hc⟩ | ((repeat apply Exists.intro);exact ⟨⟨k+1,A9,c9,by omega,by omega,rfl,rfl,Hc⟩,rfl⟩)
      case measure=>first | (simp only [intOf];omega) | (simp [intOf];omega)
     have n6:decide (pk < 6)=false:=by rw [decide_eq_false_iff_not];exact h6
     by_cases Kd:pk < 14
     ·have HA:=mA (show Scu.rawAct 3 x=⟨2,pa,pb,0,0,Scu.op0⟩ by simp only [Scu.rawAct];rw [Hx.out,if_neg h6,if_pos Kd,HP.out.1,HP.out.2.1])
      have Hg:=zBr (Hr.out) (mC _) (.int .i64 ((⟨2,pa,pb,0,0,Scu.op0⟩:Scu.Act):Scu.Act).kind) (.int .i64 ((⟨2,pa,pb,0,0,Scu.op0⟩:Scu.Act):Scu.Act).c) (.int .i64 ((⟨2,pa,pb,0,0,Scu.op0⟩:Scu.Act):Scu.Act).r) (.int .i64 ((⟨2,pa,pb,0,0,Scu.op0⟩:Scu.Act):Scu.Act).k) (.int .i64 ((⟨2,pa,pb,0,0,Scu.op0⟩:Scu.Act):Scu.Act).n) (.int .i64 ((⟨2,pa,pb,0,0,Scu.op0⟩:Scu.Act):Scu.Act).op.kind) (.int .i64 ((⟨2,pa,pb,0,0,Scu.op0⟩:Scu.Act):Scu.Act).op.at_) (.int .i64 ((⟨2,pa,pb,0,0,Scu.op0⟩:Scu.Act):Scu.Act).op.snap) (.string ((⟨2,pa,pb,0,0,Scu.op0⟩:Scu.Act):Scu.Act).op.data)
      have hP:=(HW.out.1.below (by rw [Hw.out];exact Hg)).below (zAa _ (.cells (actV (⟨2,pa,pb,0,0,Scu.op0⟩:Scu.Act)).toArray 40))
      obtain ⟨css,Hd⟩:=hP.out
      have Ha:=Hd.row
      rw [show ((l.take k).map (Scu.rawAct 3)).length=k by rw [List.length_map,List.length_take];omega] at Ha
      have He:=mA (mB hP Hd)
      have Hb:=mA Ha
      clear Hg hP Hd Ha
      go_wp2_with (at_builtin;refine zBc _ rfl (.tmp 120) (.tmp 122) 23 rfl zDt w.heap.size (.slice Ao k co) k css.flatten rfl Hb.out (.slice (some ⟨W1.heap.size,0,none⟩) 1 1) 1 (actV (⟨2,pa,pb,0,0,Scu.op0⟩:Scu.Act)) rfl (zCx rfl (by simp)) (zCb _) (by unfold maxLen;omega) (by omega) (by simp;omega) ?_)
      intro v4 x4 h4 Hi _
      obtain ⟨A9,c9,rfl,_,_,_,_⟩:=zAg h4
      have Hj:=He.out.1.push Hy He.out.2 Ht (by rw [HX.out];exact HA.out) (by unfold R47;omega) h4 Hi
      have Hc:=mA Hj
      clear Hj h4 Hi He Hb
      go_wp2_with fail
      go_roundw
      case rel=>first | exact ⟨k+1,A9,c9,by omega,by omega,rfl,rfl,Hc⟩ | ((repeat apply Exists.intro);exact ⟨⟨k+1,A9,c9,by omega,by omega,rfl,rfl,Hc⟩,rfl⟩)
      case measure=>first | (simp only [intOf];omega) | (simp [intOf];omega)
     by_cases Ke:pk < 20
     ·have HA:=mA (show Scu.rawAct 3 x=⟨3,pa,pb,0,0,Scu.op0⟩ by simp only [Scu.rawAct];rw [Hx.out,if_neg h6,if_neg Kd,if_pos Ke,HP.out.1,HP.out.2.1])
      have Hg:=zBr (Hr.out) (mC _) (.int .i64 ((⟨3,pa,pb,0,0,Scu.op0⟩:Scu.Act):Scu.Act).kind) (.int .i64 ((⟨3,pa,pb,0,0,Scu.op0⟩:Scu.Act):Scu.Act).c) (.int .i64 ((⟨3,pa,pb,0,0,Scu.op0⟩:Scu.Act):Scu.Act).r) (.int .i64 ((⟨3,pa,pb,0,0,Scu.op0⟩:Scu.Act):Scu.Act).k) (.int .i64 ((⟨3,pa,pb,0,0,Scu.op0⟩:Scu.Act):Scu.Act).n) (.int .i64 ((⟨3,pa,pb,0,0,Scu.op0⟩:Scu.Act):Scu.Act).op.kind) (.int .i64 ((⟨3,pa,pb,0,0,Scu.op0⟩:Scu.Act):Scu.Act).op.at_) (.int .i64 ((⟨3,pa,pb,0,0,Scu.op0⟩:Scu.Act):Scu.Act).op.snap) (.string ((⟨3,pa,pb,0,0,Scu.op0⟩:Scu.Act):Scu.Act).op.data)
      have hP:=(HW.out.1.below (by rw [Hw.out];exact Hg)).below (zAa _ (.cells (actV (⟨3,pa,pb,0,0,Scu.op0⟩:Scu.Act)).toArray 40))
      obtain ⟨css,Hd⟩:=hP.out
      have Ha:=Hd.row
      rw [show ((l.take k).map (Scu.rawAct 3)).length=k by rw [List.length_map,List.length_take];omega] at Ha
      have He:=mA (mB hP Hd)
      have Hb:=mA Ha
      clear Hg hP Hd Ha
      go_wp2_with (at_builtin;refine zBc _ rfl (.tmp 120) (.tmp 122) 23 rfl zDt w.heap.size (.slice Ao k co) k css.flatten rfl Hb.out (.slice (some ⟨W1.heap.size,0,none⟩) 1 1) 1 (actV (⟨3,pa,pb,0,0,Scu.op0⟩:Scu.Act)) rfl (zCx rfl (by simp)) (zCb _) (by unfold maxLen;omega) (by omega) (by simp;omega) ?_)
      intro v4 x4 h4 Hi _
      obtain ⟨A9,c9,rfl,_,_,_,_⟩:=zAg h4
      have Hj:=He.out.1.push Hy He.out.2 Ht (by rw [HX.out];exact HA.out) (by unfold R47;omega) h4 Hi
      have Hc:=mA Hj
      clear Hj h4 Hi He Hb
      go_wp2_with fail
      go_roundw
      case rel=>first | exact ⟨k+1,A9,c9,by omega,by omega,rfl,rfl,Hc⟩ | ((repeat apply Exists.intro);exact ⟨⟨k+1,A9,c9,by omega,by omega,rfl,rfl,Hc⟩,rfl⟩)
      case measure=>first | (simp only [intOf];omega) | (simp [intOf];omega)
     by_cases Kk:pk < 24
     ·have HA:=mA (show Scu.rawAct 3 x=⟨4,0,pb,0,0,Scu.op0⟩ by simp only [Scu.rawAct];rw [Hx.out,if_neg h6,if_neg Kd,if_neg Ke,if_pos Kk,HP.out.2.1])
      have Hg:=zBr (Hr.out) (mC _) (.int .i64 ((⟨4,0,pb,0,0,Scu.op0⟩:Scu.Act):Scu.Act).kind) (.int .i64 ((⟨4,0,pb,0,0,Scu.op0⟩:Scu.Act):Scu.Act).c) (.int .i64 ((⟨4,0,pb,0,0,Scu.op0⟩:Scu.Act):Scu.Act).r) (.int .i64 ((⟨4,0,pb,0,0,Scu.op0⟩:Scu.Act):Scu.Act).k) (.int .i64 ((⟨4,0,pb,0,0,Scu.op0⟩:Scu.Act):Scu.Act).n) (.int .i64 ((⟨4,0,pb,0,0,Scu.op0⟩:Scu.Act):Scu.Act).op.kind) (.int .i64 ((⟨4,0,pb,0,0,Scu.op0⟩:Scu.Act):Scu.Act).op.at_) (.int .i64 ((⟨4,0,pb,0,0,Scu.op0⟩:Scu.Act):Scu.Act).op.snap) (.string ((⟨4,0,pb,0,0,Scu.op0⟩:Scu.Act):Scu.Act).op.data)
      have hP:=(HW.out.1.below (by rw [Hw.out];exact Hg)).below (zAa _ (.cells (actV (⟨4,0,pb,0,0,Scu.op0⟩:Scu.Act)).toArray 40))
      obtain ⟨css,Hd⟩:=hP.out
      have Ha:=Hd.row
      rw [show ((l.take k).map (Scu.rawAct 3)).length=k by rw [List.length_map,List.length_take];omega] at Ha
      have He:=mA (mB hP Hd)
      have Hb:=mA Ha
      clear Hg hP Hd Ha
      go_wp2_with (at_builtin;refine zBc _ rfl (.tmp 120) (.tmp 122) 23 rfl zDt w.heap.size (.slice Ao k co) k css.flatten rfl Hb.out (.slice (some ⟨W1.heap.size,0,none⟩) 1 1) 1 (actV (⟨4,0,pb,0,0,Scu.op0⟩:Scu.Act)) rfl (zCx rfl (by simp)) (zCb _) (by unfold maxLen;omega) (by omega) (by simp;omega) ?_)
      intro v4 x4 h4 Hi _
      obtain ⟨A9,c9,rfl,_,_,_,_⟩:=zAg h4
      have Hj:=He.out.1.push Hy He.out.2 Ht (by rw [HX.out];exact HA.out) (by unfold R47;omega) h4 Hi
      have Hc:=mA Hj
      clear Hj h4 Hi He Hb
      go_wp2_with fail
      go_roundw
      case rel=>first | exact ⟨k+1,A9,c9,by omega,by omega,rfl,rfl,Hc⟩ | ((repeat apply Exists.intro);exact ⟨⟨k+1,A9,c9,by omega,by omega,rfl,rfl,Hc⟩,rfl⟩)
      case measure=>first | (simp only [intOf];omega) | (simp [intOf];omega)
     by_cases Km:pk < 26
     ·have HA:=mA (show Scu.rawAct 3 x=⟨5,0,pb,0,0,Scu.op0⟩ by simp only [Scu.rawAct];rw [Hx.out,if_neg h6,if_neg Kd,if_neg Ke,if_neg Kk,if_pos Km,HP.out.2.1])
      have Hg:=zBr (Hr.out) (mC _) (.int .i64 ((⟨5,0,pb,0,0,Scu.op0⟩:Scu.Act):Scu.Act).kind) (.int .i64 ((⟨5,0,pb,0,0,Scu.op0⟩:Scu.Act):Scu.Act).c) (.int .i64 ((⟨5,0,pb,0,0,Scu.op0⟩:Scu.Act):Scu.Act).r) (.int .i64 ((⟨5,0,pb,0,0,Scu.op0⟩:Scu.Act):Scu.Act).k) (.int .i64 ((⟨5,0,pb,0,0,Scu.op0⟩:Scu.Act):Scu.Act).n) (.int .i64 ((⟨5,0,pb,0,0,Scu.op0⟩:Scu.Act):Scu.Act).op.kind) (.int .i64 ((⟨5,0,pb,0,0,Scu.op0⟩:Scu.Act):Scu.Act).op.at_) (.int .i64 ((⟨5,0,pb,0,0,Scu.op0⟩:Scu.Act):Scu.Act).op.snap) (.string ((⟨5,0,pb,0,0,Scu.op0⟩:Scu.Act):Scu.Act).op.data)
      have hP:=(HW.out.1.below (by rw [Hw.out];exact Hg)).below (zAa _ (.cells (actV (⟨5,0,pb,0,0,Scu.op0⟩:Scu.Act)).toArray 40))
      obtain ⟨css,Hd⟩:=hP.out
      have Ha:=Hd.row
      rw [show ((l.take k).map (Scu.rawAct 3)).length=k by rw [List.length_map,List.length_take];omega] at Ha
      have He:=mA (mB hP Hd)
      have Hb:=mA Ha
      clear Hg hP Hd Ha
      go_wp2_with (at_builtin;refine zBc _ rfl (.tmp 120) (.tmp 122) 23 rfl zDt w.heap.size (.slice Ao k co) k css.flatten rfl Hb.out (.slice (some ⟨W1.heap.size,0,none⟩) 1 1) 1 (actV (⟨5,0,pb,0,0,Scu.op0⟩:Scu.Act)) rfl (zCx rfl (by simp)) (zCb _) (by unfold maxLen;omega) (by omega) (by simp;omega) ?_)
      intro v4 x4 h4 Hi _
      obtain ⟨A9,c9,rfl,_,_,_,_⟩:=zAg h4
      have Hj:=He.out.1.push Hy He.out.2 Ht (by rw [HX.out];exact HA.out) (by unfold R47;omega) h4 Hi
      have Hc:=mA Hj
      clear Hj h4 Hi He Hb
      go_wp2_with fail
      go_roundw
      case rel=>first | exact ⟨k+1,A9,c9,by omega,by omega,rfl,rfl,Hc⟩ | ((repeat apply Exists.intro);exact ⟨⟨k+1,A9,c9,by omega,by omega,rfl,rfl,Hc⟩,rfl⟩)
      case measure=>first | (simp only [intOf];omega) | (simp [intOf];omega)
     by_cases e26:pk=26
     ·have HA:=mA (show Scu.rawAct 3 x=⟨7,0,0,pc,0,Scu.op0⟩ by simp only [Scu.rawAct];rw [Hx.out,if_neg h6,if_neg Kd,if_neg Ke,if_neg Kk,if_neg Km,if_pos e26,HP.out.2.2.1])
      have Hg:=zBr (Hr.out) (mC _) (.int .i64 ((⟨7,0,0,pc,0,Scu.op0⟩:Scu.Act):Scu.Act).kind) (.int .i64 ((⟨7,0,0,pc,0,Scu.op0⟩:Scu.Act):Scu.Act).c) (.int .i64 ((⟨7,0,0,pc,0,Scu.op0⟩:Scu.Act):Scu.Act).r) (.int .i64 ((⟨7,0,0,pc,0,Scu.op0⟩:Scu.Act):Scu.Act).k) (.int .i64 ((⟨7,0,0,pc,0,Scu.op0⟩:Scu.Act):Scu.Act).n) (.int .i64 ((⟨7,0,0,pc,0,Scu.op0⟩:Scu.Act):Scu.Act).op.kind) (.int .i64 ((⟨7,0,0,pc,0,Scu.op0⟩:Scu.Act):Scu.Act).op.at_) (.int .i64 ((⟨7,0,0,pc,0,Scu.op0⟩:Scu.Act):Scu.Act).op.snap) (.string ((⟨7,0,0,pc,0,Scu.op0⟩:Scu.Act):Scu.Act).op.data)
      have hP:=(HW.out.1.below (by rw [Hw.out];exact Hg)).below (zAa _ (.cells (actV (⟨7,0,0,pc,0,Scu.op0⟩:Scu.Act)).toArray 40))
      obtain ⟨css,Hd⟩:=hP.out
      have Ha:=Hd.row
      rw [show ((l.take k).map (Scu.rawAct 3)).length=k by rw [List.length_map,List.length_take];omega] at Ha
      have He:=mA (mB hP Hd)
      have Hb:=mA Ha
      clear Hg hP Hd Ha
      go_wp2_with (at_builtin;refine zBc _ rfl (.tmp 120) (.tmp 122) 23 rfl zDt w.heap.size (.slice Ao k co) k css.flatten rfl Hb.out (.slice (some ⟨W1.heap.size,0,none⟩) 1 1) 1 (actV (⟨7,0,0,pc,0,Scu.op0⟩:Scu.Act)) rfl (zCx rfl (by simp)) (zCb _) (by unfold maxLen;omega) (by omega) (by simp;omega) ?_)
      intro v4 x4 h4 Hi _
      obtain ⟨A9,c9,rfl,_,_,_,_⟩:=zAg h4
      have Hj:=He.out.1.push Hy He.out.2 Ht (by rw [HX.out];exact HA.out) (by unfold R47;omega) h4 Hi
      have Hc:=mA Hj
      clear Hj h4 Hi He Hb
      go_wp2_with fail
      go_roundw
      case rel=>first | exact ⟨k+1,A9,c9,by omega,by omega,rfl,rfl,Hc⟩ | ((repeat apply Exists.intro);exact ⟨⟨k+1,A9,c9,by omega,by omega,rfl,rfl,Hc⟩,rfl⟩)
      case measure=>first | (simp only [intOf];omega) | (simp [intOf];omega)
     by_cases e27:pk=27
     ·have HA:=mA (show Scu.rawAct 3 x=⟨8,0,0,pc,0,Scu.op0⟩ by simp only [Scu.rawAct];rw [Hx.out,if_neg h6,if_neg Kd,if_neg Ke,if_neg Kk,if_neg Km,if_neg e26,if_pos e27,HP.out.2.2.1])
      have Hg:=zBr (Hr.out) (mC _) (.int .i64 ((⟨8,0,0,pc,0,Scu.op0⟩:Scu.Act):Scu.Act).kind) (.int .i64 ((⟨8,0,0,pc,0,Scu.op0⟩:Scu.Act):Scu.Act).c) (.int .i64 ((⟨8,0,0,pc,0,Scu.op0⟩:Scu.Act):Scu.Act).r) (.int .i64 ((⟨8,0,0,pc,0,Scu.op0⟩:Scu.Act):Scu.Act).k) (.int .i64 ((⟨8,0,0,pc,0,Scu.op0⟩:Scu.Act):Scu.Act).n) (.int .i64 ((⟨8,0,0,pc,0,Scu.op0⟩:Scu.Act):Scu.Act).op.kind) (.int .i64 ((⟨8,0,0,pc,0,Scu.op0⟩:Scu.Act):Scu.Act).op.at_) (.int .i64 ((⟨8,0,0,pc,0,Scu.op0⟩:Scu.Act):Scu.Act).op.snap) (.string ((⟨8,0,0,pc,0,Scu.op0⟩:Scu.Act):Scu.Act).op.data)
      have hP:=(HW.out.1.below (by rw [Hw.out];exact Hg)).below (zAa _ (.cells (actV (⟨8,0,0,pc,0,Scu.op0⟩:Scu.Act)).toArray 40))
      obtain ⟨css,Hd⟩:=hP.out
      have Ha:=Hd.row
      rw [show ((l.take k).map (Scu.rawAct 3)).length=k by rw [List.length_map,List.length_take];omega] at Ha
      have He:=mA (mB hP Hd)
      have Hb:=mA Ha
      clear Hg hP Hd Ha
      go_wp2_with (at_builtin;refine zBc _ rfl (.tmp 120) (.tmp 122) 23 rfl zDt w.heap.size (.slice Ao k co) k css.flatten rfl Hb.out (.slice (some ⟨W1.heap.size,0,none⟩) 1 1) 1 (actV (⟨8,0,0,pc,0,Scu.op0⟩:Scu.Act)) rfl (zCx rfl (by simp)) (zCb _) (by unfold maxLen;omega) (by omega) (by simp;omega) ?_)
      intro v4 x4 h4 Hi _
      obtain ⟨A9,c9,rfl,_,_,_,_⟩:=zAg h4
      have Hj:=He.out.1.push Hy He.out.2 Ht (by rw [HX.out];exact HA.out) (by unfold R47;omega) h4 Hi
      have Hc:=mA Hj
      clear Hj h4 Hi He Hb
      go_wp2_with fail
      go_roundw
      case rel=>first | exact ⟨k+1,A9,c9,by omega,by omega,rfl,rfl,Hc⟩ | ((repeat apply Exists.intro);exact ⟨⟨k+1,A9,c9,by omega,by omega,rfl,rfl,Hc⟩,rfl⟩)
      case measure=>first | (simp only [intOf];omega) | (simp [intOf];omega)
     by_cases e28:pk=28
     ·have HA:=mA (show Scu.rawAct 3 x=⟨9,0,pb,0,0,Scu.op0⟩ by simp only [Scu.rawAct];rw [Hx.out,if_neg h6,if_neg Kd,if_neg Ke,if_neg Kk,if_neg Km,if_neg e26,if_neg e27,if_pos e28,HP.out.2.1])
      have Hg:=zBr (Hr.out) (mC _) (.int .i64 ((⟨9,0,pb,0,0,Scu.op0⟩:Scu.Act):Scu.Act).kind) (.int .i64 ((⟨9,0,pb,0,0,Scu.op0⟩:Scu.Act):Scu.Act).c) (.int .i64 ((⟨9,0,pb,0,0,Scu.op0⟩:Scu.Act):Scu.Act).r) (.int .i64 ((⟨9,0,pb,0,0,Scu.op0⟩:Scu.Act):Scu.Act).k) (.int .i64 ((⟨9,0,pb,0,0,Scu.op0⟩:Scu.Act):Scu.Act).n) (.int .i64 ((⟨9,0,pb,0,0,Scu.op0⟩:Scu.Act):Scu.Act).op.kind) (.int .i64 ((⟨9,0,pb,0,0,Scu.op0⟩:Scu.Act):Scu.Act).op.at_) (.int .i64 ((⟨9,0,pb,0,0,Scu.op0⟩:Scu.Act):Scu.Act).op.snap) (.string ((⟨9,0,pb,0,0,Scu.op0⟩:Scu.Act):Scu.Act).op.data)
      have hP:=(HW.out.1.below (by rw [Hw.out];exact Hg)).below (zAa _ (.cells (actV (⟨9,0,pb,0,0,Scu.op0⟩:Scu.Act)).toArray 40))
      obtain ⟨css,Hd⟩:=hP.out
      have Ha:=Hd.row
      rw [show ((l.take k).map (Scu.rawAct 3)).length=k by rw [List.length_map,List.length_take];omega] at Ha
      have He:=mA (mB hP Hd)
      have Hb:=mA Ha
      clear Hg hP Hd Ha
      go_wp2_with (at_builtin;refine zBc _ rfl (.tmp 120) (.tmp 122) 23 rfl zDt w.heap.size (.slice Ao k co) k css.flatten rfl Hb.out (.slice (some ⟨W1.heap.size,0,none⟩) 1 1) 1 (actV (⟨9,0,pb,0,0,Scu.op0⟩:Scu.Act)) rfl (zCx rfl (by simp)) (zCb _) (by unfold maxLen;omega) (by omega) (by simp;omega) ?_)
      intro v4 x4 h4 Hi _
      obtain ⟨A9,c9,rfl,_,_,_,_⟩:=zAg h4
      have Hj:=He.out.1.push Hy He.out.2 Ht (by rw [HX.out];exact HA.out) (by unfold R47;omega) h4 Hi
      have Hc:=mA Hj
      clear Hj h4 Hi He Hb
      go_wp2_with fail
      go_roundw
      case rel=>first | exact ⟨k+1,A9,c9,by omega,by omega,rfl,rfl,Hc⟩ | ((repeat apply Exists.intro);exact ⟨⟨k+1,A9,c9,by omega,by omega,rfl,rfl,Hc⟩,rfl⟩)
      case measure=>first | (simp only [intOf];omega) | (simp [intOf];omega)
     by_cases e29:pk=29
     ·have HA:=mA (show Scu.rawAct 3 x=⟨10,0,0,pc,pn,Scu.op0⟩ by simp only [Scu.rawAct];rw [Hx.out,if_neg h6,if_neg Kd,if_neg Ke,if_neg Kk,if_neg Km,if_neg e26,if_neg e27,if_neg e28,if_pos e29,HP.out.2.2.1,HP.out.2.2.2])
      have Hg:=zBr (Hr.out) (mC _) (.int .i64 ((⟨10,0,0,pc,pn,Scu.op0⟩:Scu.Act):Scu.Act).kind) (.int .i64 ((⟨10,0,0,pc,pn,Scu.op0⟩:Scu.Act):Scu.Act).c) (.int .i64 ((⟨10,0,0,pc,pn,Scu.op0⟩:Scu.Act):Scu.Act).r) (.int .i64 ((⟨10,0,0,pc,pn,Scu.op0⟩:Scu.Act):Scu.Act).k) (.int .i64 ((⟨10,0,0,pc,pn,Scu.op0⟩:Scu.Act):Scu.Act).n) (.int .i64 ((⟨10,0,0,pc,pn,Scu.op0⟩:Scu.Act):Scu.Act).op.kind) (.int .i64 ((⟨10,0,0,pc,pn,Scu.op0⟩:Scu.Act):Scu.Act).op.at_) (.int .i64 ((⟨10,0,0,pc,pn,Scu.op0⟩:Scu.Act):Scu.Act).op.snap) (.string ((⟨10,0,0,pc,pn,Scu.op0⟩:Scu.Act):Scu.Act).op.data)
      have hP:=(HW.out.1.below (by rw [Hw.out];exact Hg)).below (zAa _ (.cells (actV (⟨10,0,0,pc,pn,Scu.op0⟩:Scu.Act)).toArray 40))
      obtain ⟨css,Hd⟩:=hP.out
      have Ha:=Hd.row
      rw [show ((l.take k).map (Scu.rawAct 3)).length=k by rw [List.length_map,List.length_take];omega] at Ha
      have He:=mA (mB hP Hd)
      have Hb:=mA Ha
      clear Hg hP Hd Ha
      go_wp2_with (at_builtin;refine zBc _ rfl (.tmp 120) (.tmp 122) 23 rfl zDt w.heap.size (.slice Ao k co) k css.flatten rfl Hb.out (.slice (some ⟨W1.heap.size,0,none⟩) 1 1) 1 (actV (⟨10,0,0,pc,pn,Scu.op0⟩:Scu.Act)) rfl (zCx rfl (by simp)) (zCb _) (by unfold maxLen;omega) (by omega) (by simp;omega) ?_)
      intro v4 x4 h4 Hi _
      obtain ⟨A9,c9,rfl,_,_,_,_⟩:=zAg h4
      have Hj:=He.out.1.push Hy He.out.2 Ht (by rw [HX.out];exact HA.out) (by unfold R47;omega) h4 Hi
      have Hc:=mA Hj
      clear Hj h4 Hi He Hb
      go_wp2_with fail
      go_roundw
      case rel=>first | exact ⟨k+1,A9,c9,by omega,by omega,rfl,rfl,Hc⟩ | ((repeat apply Exists.intro);exact ⟨⟨k+1,A9,c9,by omega,by omega,rfl,rfl,Hc⟩,rfl⟩)
      case measure=>first | (simp only [intOf];omega) | (simp [intOf];omega)
     have HA:=mA (show Scu.rawAct 3 x=⟨6,0,0,pc*Scu.picked x.a 2,0,Scu.op0⟩ by simp only [Scu.rawAct];rw [Hx.out,if_neg h6,if_neg Kd,if_neg Ke,if_neg Kk,if_neg Km,if_neg e26,if_neg e27,if_neg e28,if_neg e29,HP.out.2.2.1])
     obtain ⟨p2,Vg⟩:=mK (Scu.picked x.a 2)
     have Kf:=Scu.picked_lt (n:=x.a) (many:=2) (by decide)
     have Kg:=Scu.picked_lt (n:=x.c) (many:=5) (by decide)
     rw [Vg] at Kf HA
     rw [HP.out.2.2.1] at Kg
     have hq:0<=pc*p2/\pc*p2<=4:=by
      obtain rfl | rfl:p2=0\/p2=1:=by omega
      ·simp
      simp;omega
     have Gj:=hq.1
     have Gk:=hq.2
     have Gc:=mA Vg
     clear hq Vg Kf Kg
     go_wp2_with fail
     obtain ⟨S,Hn⟩:∃ S:World->Prop,S=fun w'=>w'.cell? ⟨ga,3,none⟩=some (.int .i64 pc)/\w'.cell? ⟨gw,1,none⟩=some (.int .i64 x.a):=⟨_,rfl⟩
     have Hf:S W1.drew:=by rw [Hn];exact ⟨a3,b1⟩
     refine zAq S 7 (by kernel_rfl) (fun Hs=>?_)
     change wpAnyE _ _ _ _ _ _ _ _ _ W1.drew
     refine tkEs 14 [0,1,2,3] (by kernel_rfl) (fun _ _ _ _ _ h=>h) Hs Hf ?_
     iterate 4
      refine tkc (v:=?_) rfl (Or.inl ⟨by rfl,?_⟩) ?_
      rotate_left
      ·(intro wv Hh;rw [Hn] at Hh;obtain ⟨s0,s1⟩:=Hh;go_simp;(try with_reducible rfl))
      (try simp only [Act.put,zp1,zp2,zp3])
     refine tkz (fun Hs=>?_)
     refine alE 4 (by kernel_rfl) (wpOp_step (o:=_) rfl fun KA Vc=>?_)
     go_simp
     refine (zAt _ _ Hm.out.2.1 (by decide) (by decide) _).mono ?_;rintro e w' ⟨rfl,rfl⟩
     rw [Gc.out]
     refine Vc _ _ ⟨.inr Hf,?_⟩
     have Hs:=Hs.set (i:=4) (by rw [<- List.contains_iff_mem];kernel_rfl)
     (try simp only [Act.put,zp1,zp2,zp3])
     refine tkEs 14 [5,6] (by kernel_rfl) (fun _ _ _ _ _ h=>h) Hs Hf ?_
     iterate 2
      refine tkc (v:=?_) rfl (Or.inl ⟨by rfl,?_⟩) ?_
      rotate_left
      ·(intro wv Hh;rw [Hn] at Hh;obtain ⟨s0,s1⟩:=Hh;go_simp;(try with_reducible rfl))
      (try simp only [Act.put,zp1,zp2,zp3])
     refine tkz (fun Hs=>?_)
     refine alE 7 (by kernel_rfl) (wpOp_step (o:=_) rfl fun KB Ve=>?_)
     go_simp
     refine Ve _ _ ⟨.inl rfl,zAp (by kernel_rfl) ?_ _⟩
     (try simp only [Act.put,zp1,zp2,zp3])
     rw [zTq ⟨by omega,by omega⟩]
     refine genW (P:=fun W=>Exit.inBlock _ _ _ _ W) (fun W2 Kj=>?_)
     have Hg:Below ga Wd W2:=by rw [Kj];exact Below.drew (zBr Hr.out (mC _) _ _ _ _ _ _ _ _ _)
     have Hl:Blk W2 ga 40 (actV (⟨6,0,0,pc*p2,0,Scu.op0⟩:Scu.Act)).toArray:=by rw [Kj];exact Blk.drew (zQe Ks.out _ _ _ _ _ _ _ _ _)
     clear Kj a0 a1 a2 a3 a4 a5 a6 a7 a8
     have hP:=(HW.out.1.below (by rw [Hw.out];exact Hg)).below (zAa _ (.cells (actV (⟨6,0,0,pc*p2,0,Scu.op0⟩:Scu.Act)).toArray 40))
     obtain ⟨css,Hd⟩:=hP.out
     have Ha:=Hd.row
     rw [show ((l.take k).map (Scu.rawAct 3)).length=k by rw [List.length_map,List.length_take];omega] at Ha
     have He:=mA (mB hP Hd)
     have Hb:=mA Ha
     have Vf:w.heap.size<=W2.heap.size:=mD HW.out.1.low.size (by have:=Hg.size;exact this)
     have a0:=Hl.cell 0
     have a1:=Hl.cell 1
     have a2:=Hl.cell 2
     have a3:=Hl.cell 3
     have a4:=Hl.cell 4
     have a5:=Hl.cell 5
     have a6:=Hl.cell 6
     have a7:=Hl.cell 7
     have a8:=Hl.cell 8
     simp only [actV,List.getElem?_toArray,List.getElem?_cons_zero,List.getElem?_cons_succ] at a0 a1 a2 a3 a4 a5 a6 a7 a8
     clear Hg hP Hd Ha Hl
     go_wp2_with (at_builtin;refine zBc _ rfl (.tmp 120) (.tmp 122) 23 rfl zDt w.heap.size (.slice Ao k co) k css.flatten rfl Hb.out (.slice (some ⟨W2.heap.size,0,none⟩) 1 1) 1 (actV (⟨6,0,0,pc*p2,0,Scu.op0⟩:Scu.Act)) rfl (zCx rfl (by simp)) (zCb _) (by unfold maxLen;omega) (by omega) (by simp;omega) ?_)
     intro v4 x4 h4 Hi _
     obtain ⟨A9,c9,rfl,_,_,_,_⟩:=zAg h4
     have Hj:=He.out.1.push Hy He.out.2 Ht (by rw [HX.out];exact HA.out) (by unfold R47;omega) h4 Hi
     have Hc:=mA Hj
     clear Hj h4 Hi He Hb
     go_wp2_with fail
     go_roundw
     case rel=>first | exact ⟨k+1,A9,c9,by omega,by omega,rfl,rfl,Hc⟩ | ((repeat apply Exists.intro);exact ⟨⟨k+1,A9,c9,by omega,by omega,rfl,rfl,Hc⟩,rfl⟩)
     case measure=>first | (simp only [intOf];omega) | (simp [intOf];omega)
   have Vh:k=most:=by omega
   have Kw:¬ (k:Int) < (most:Int):=by omega
   subst Vh
   go_wp2
   go_ret
   obtain ⟨css,Hd⟩:=HR.out.out
   have e:(Scu.rawActs l k 3).length=k:=by simp [Scu.rawActs];omega
   rw [e]
   exact ⟨⟨_,_,rfl,css,Hd⟩,HR.out.low⟩
  have Vi:k=l.length:=by omega
  have Kv:¬ (k:Int) < (l.length:Int):=by omega
  subst Vi
  have Kr:Scu.rawActs l most 3=(l.take l.length).map (Scu.rawAct 3):=by unfold Scu.rawActs;rw [List.take_of_length_le (by omega:l.length<=most),List.take_length]
  have Vj:=mA Kr
  clear Kr
  go_wp2
  go_ret
  obtain ⟨css,Hd⟩:=HR.out.out
  rw [Vj.out]
  have e:((l.take l.length).map (Scu.rawAct 3)).length=l.length:=by simp
  rw [e]
  exact ⟨⟨_,_,rfl,css,Hd⟩,HR.out.low⟩
end Go.Proofs.YtnpphdaakookcaaDoor
