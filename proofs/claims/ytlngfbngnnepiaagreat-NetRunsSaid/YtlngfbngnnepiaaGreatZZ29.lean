/- Part 29: words and walks under the laws of the whole. -/
import Derived.Test.YtlngfbngnnepiaaGreatZZ12
import Derived.Test.YtlngfbngnnepiaaGreatZZ20
import Derived.Test.YtlngfbngnnepiaaGreatZZ21
import Derived.Test.YtlngfbngnnepiaaGreatZZ28
set_option linter.unusedVariables false
set_option linter.unusedSimpArgs false
set_option maxHeartbeats 4000000
set_option maxRecDepth 100000
namespace Go.Proofs.YtlngfbngnnepiaaGreat
open Go.RowKit
abbrev fStore:Bool->FuncId
 | false=>82
 | true=>65
abbrev fSend:Bool->FuncId
 | false=>81
 | true=>64
abbrev fSettle:Bool->FuncId
 | false=>51
 | true=>36
theorem zSe (s:Bool) (v lv:Value) (l:List Scu.Str) (k:Scu.Kept) (up:Int) (w:World) (B BK:Nat) (hv:IsStrs w B v l) (hk:IsStrs w BK lv k.log) (l':List Scu.Str) (f:Int) (h:Scu.store l k up=(l',f)) :
 Calls Tryz.prog (fStore s) #[v,.agg #[.int .i64 k.view,.int .i64 k.normal,.bool k.calm,lv,.int .i64 k.commit],.int .i64 up] w fun e w'=>(∃ Au nu cu,e=.returned (.tuple #[.slice Au nu cu,.int .i64 f])/\IsStrs w' 0 (.slice Au nu cu) l')/\Below w.heap.size w w':=by
 have:Calls Tryz.prog (fStore s) #[v,.agg #[.int .i64 k.view,.int .i64 k.normal,.bool k.calm,lv,.int .i64 k.commit],.int .i64 up] w fun e w'=>StoreRet w' w.heap.size (Scu.store l k up) e/\Below w.heap.size w w':=by
  cases s
  ·exact zMx v lv l k up w B BK hv hk
  exact zQm v lv l k up w B BK hv hk
 rw [h] at this;refine this.mono ?_;rintro e w' ⟨⟨u,rfl,ho⟩,hb⟩;obtain ⟨A,n,c,rfl⟩:=ho.is.form;exact ⟨⟨_,_,_,rfl,ho.is⟩,hb⟩
theorem zWb (s:Bool) (A:Option Addr) (c:Nat) (ms:List Scu.Message) (w:World) (base gx:Nat) (x:Scu.Net) (rv sv fv cv tv:Value) (hN:NetG s w base gx x rv sv fv cv tv) (hb:base<=w.heap.size) (hx:IsRow 99 8 80 MsgE w 0 (.slice A ms.length c) ms)
 (Ha:∀ g,(Value.slice A ms.length c).ownBlock=some g->fv.ownBlock≠some g) (Hb:x.flying.length<=80) :
 Calls Tryz.prog (fSend s) #[.pointer (some ⟨gx,0,none⟩),.slice A ms.length c] w fun e w'=>e=.returned (.tuple #[])/\NetGE s w' base gx { x with flying:=Scu.sendAll x.flying ms }/\Fr base w w':=by
 cases s
 ·exact zRx A c ms w base gx x rv sv fv cv tv hN hb hx Ha Hb
 exact zZh A c ms w base gx x rv sv fv cv tv hN hb hx Ha Hb
theorem IsMs.below {w w':World} {v:Value} {ms:List Scu.Message} (h:IsRow 99 8 80 MsgE w 0 v ms) (hb:Below w.heap.size w w'):IsRow 99 8 80 MsgE w' 0 v ms :=
 h.same (Ts:=[9,99]) (by simp) (Same.below hb) (fun _ _ h=>h.same (Ts:=[9]) (by simp) (Same.below hb))
theorem IsMs.keep {w w':World} {v:Value} {ms:List Scu.Message} (h:IsRow 99 8 80 MsgE w 0 v ms) (hs:Same [9,99] 0 w w'):IsRow 99 8 80 MsgE w' 0 v ms :=
 h.same (Ts:=[9,99]) (by simp) hs (fun _ _ h=>h.same (Ts:=[9,99]) (by simp) hs)
structure StS (s:Bool) (w W:World) (base gx gb:Nat) (x:Scu.Net) (rv sv fv cv tv:Value) (next:Scu.Replica) (lu hv wv gv nv ov:Value) (ms:List Scu.Message):Prop where
 net:NetG s W base gx x rv sv fv cv tv
 box:Blk W gb 47 #[.int .i64 next.me,.int .i64 next.kept.view,.int .i64 next.kept.normal,.bool next.kept.calm,lu,.int .i64 next.kept.commit,hv,wv,gv,nv]
 rep:IsRep W 0 lu hv wv gv nv next
 row:IsRow 99 8 80 MsgE W 0 ov ms
 fr:Fr base w W
 le:base<=W.heap.size
section
variable {s:Bool} {w W W':World} {base gx gb g n c k:Nat} {x:Scu.Net} {rv sv fv cv tv:Value} {next:Scu.Replica} {lu hv wv gv nv ov:Value} {ms:List Scu.Message}
theorem StS.below (h:StS s w W base gx gb x rv sv fv cv tv next lu hv wv gv nv ov ms) (hb:Below W.heap.size W W'):StS s w W' base gx gb x rv sv fv cv tv next lu hv wv gv nv ov ms :=
 ⟨h.net.below hb,h.box.same hb,h.rep.below hb,IsMs.below h.row hb,h.fr.trans (Fr.of hb h.le),mD h.le hb.size⟩
theorem StS.put (h:StS s w W base gx gb x (.slice (some ⟨g,0,none⟩) n c) sv fv cv tv next lu hv wv gv nv ov ms) (hk:k < x.replicas.length) :
 NetG s (W.setCells g (k*10) (repV next lu hv wv gv nv)) base gx { x with replicas:=x.replicas.set k next } (.slice (some ⟨g,0,none⟩) n c) sv fv cv tv/\Fr base w (W.setCells g (k*10) (repV next lu hv wv gv nv))/\IsRow 99 8 80 MsgE (W.setCells g (k*10) (repV next lu hv wv gv nv)) 0 ov ms/\base<=(W.setCells g (k*10) (repV next lu hv wv gv nv)).heap.size:=by
 obtain ⟨hP,hF⟩:=h.net.putRep hk (cs:=repV next lu hv wv gv nv) ⟨_,_,_,_,_,rfl,h.rep⟩;obtain ⟨css,hr⟩:=h.net.reps;obtain ⟨_,_,_,e,_,⟨cur,hB⟩,_⟩:=hr.at_ hk;cases e
 exact ⟨hP,h.fr.trans hF,IsMs.keep h.row (Same.sets _ _ _ cur hB (by decide)),mD h.le hF.size⟩
theorem StS.slot (h:StS s w W base gx gb x rv (.slice (some ⟨g,0,none⟩) n c) fv cv tv next lu hv wv gv nv ov ms) (hk:k < x.slots.length) {u:Value} {l:List Scu.Str} (hu:IsStrs W 0 u l) :
 StS s w (W.setCell ⟨g,k,none⟩ u) base gx gb { x with slots:=x.slots.set k l } rv (.slice (some ⟨g,0,none⟩) n c) fv cv tv next lu hv wv gv nv ov ms:=by
 obtain ⟨hP,hF⟩:=h.net.putSlot hk hu;obtain ⟨_,_,_,e,_,_,_,_,_,cur,hB⟩:=h.net.slotAt hk;cases e
 have hs:Same [9,3,4,42,47,99] 0 W (W.setCell ⟨g,k,none⟩ u):=Same.set_ hB (mE _) (by decide) k u;exact ⟨hP,zAc h.box hs (by simp),h.rep.same (hs.mono (by simp) (mC _)),IsMs.keep h.row (hs.mono (by simp) (mC _)),h.fr.trans hF,mD h.le hF.size⟩
end
theorem zH4 {P:Prop} (h:P:=by
 refine tkz (fun Hc=>?_);refine alF 10 (fun KA He=>?_);go_simp;refine (zMn Au Ak nu nk cu ck next.kept rk.kept Wd.drew 0 0 (HI.out.rep.log.below Ha) (Hr.out.below Ha) qb Ka.out).mono ?_;rintro en x1 ⟨rfl,k1⟩;have Ha:=Ha.trans k1;refine He _ _ ⟨.inr Ha,?_⟩;cases qb
 all_goals
  refine puT ?_;refine tkFs 16 [11,12,13,14] Ha (shF Hc 10) ?_;iterate 4
   first
   | (refine tkc (v:=?_) rfl (Or.inl ⟨by rfl,?_⟩) ?_;rotate_left;(intro wv Hb;obtain ⟨d0,d1,d2,d3,d4⟩:=cz5 (HI.out.net.box.same Hb);obtain ⟨b0,b1,b2,b3,b4,b5,b6,b7,b8,b9⟩:=cz10 (HI.out.box.same Hb);skip;go_simp;with_reducible rfl);(try simp only [Act.put,zp1,zp2,zp3]))
   | (refine tkc (v:=undef) rfl (Or.inr ⟨by rfl,rfl⟩) ?_;(try simp only [Act.put,zp1,zp2,zp3]))
  refine tkz (fun Hc=>?_);refine zAe (by kernel_rfl) ?_ _;change Exit.then _ _ _ _ x1;go_wp2_with fail
  go_meet
  exact ⟨by rw [<- Hs.out];rfl,Ha⟩):P:=h
theorem zJ4 {P:Prop} (h:P:=by
 have H9:=mA (mB Hg (HP.out.2.1.trans Hh));clear Hg Hh;go_wp2
 go_ret
 exact ⟨zAb (zAd Hf.out.2.symm),by rw [Hf.out.1];exact H9.out.1,H9.out.2⟩):P:=h
theorem zHk (s:Bool) (r:Nat) (next:Scu.Replica) (lu hv wv gv nv:Value) (A:Option Addr) (c:Nat) (ms:List Scu.Message) (upto:Int) (w:World) (base gx:Nat) (x:Scu.Net) (rv sv fv cv tv:Value) (hN:NetG s w base gx x rv sv fv cv tv) (hb:base<=w.heap.size) (hr:r < x.replicas.length) (hs:r < x.slots.length) (Kf:x.replicas.length=3)
 (Hi:IsRep w 0 lu hv wv gv nv next) (Kg:IsRow 99 8 80 MsgE w 0 (.slice A ms.length c) ms) (Kh:∀ g,(Value.slice A ms.length c).ownBlock=some g->fv.ownBlock≠some g) (Ki:x.flying.length<=80) (y:Scu.Net) (f:Int) (hy:Scu.settle x r next ms upto=(y,f)) :
 Calls Tryz.prog (fSettle s) #[.pointer (some ⟨gx,0,none⟩),.int .i64 r,.agg #[.int .i64 next.me,.int .i64 next.kept.view,.int .i64 next.kept.normal,.bool next.kept.calm,lu,.int .i64 next.kept.commit,hv,wv,gv,nv],.slice A ms.length c,.int .i64 upto] w fun e w'=>e=.returned (.int .i64 f)/\NetGE s w' base gx y/\Fr base w w':=by
 obtain ⟨gr,cr,lk,Vb,wv0,gv0,nv0,rfl,Kt,Vc,Hp,Hw,-⟩:=hN.repAt hr;obtain ⟨gs,cs,us,rfl,Vd,Ve,-⟩:=hN.slotAt hs;obtain ⟨Au,nu,cu,rfl⟩:=Hi.log.form;obtain ⟨rk,Hx⟩:=mK (x.replicas[r]);rw [Hx] at Hw Hp;obtain ⟨Ak,nk,ck,rfl⟩:=Hp.log.form;have hg:x.replicas.getD r Scu.replica0=rk:=by rw [mI,mH hr];exact Hx
 have Hl:x.slots.getD r []=x.slots[r]:=by rw [mI,mH hs];rfl
 obtain ⟨l',f',Hj⟩:∃ l' f',Scu.store x.slots[r] next.kept upto=(l',f'):=⟨_,_,rfl⟩;unfold Scu.settle at hy;rw [hg,Hl,Hj] at hy;obtain ⟨qb,Hy⟩:∃ b:Bool,decide (next.kept=rk.kept)=b:=⟨_,rfl⟩;obtain ⟨ub,Ku⟩:∃ b:Bool,decide (upto < 0)=b:=⟨_,rfl⟩;obtain ⟨bq,Hz⟩:∃ b:Bool,(qb && ub)=b:=⟨_,rfl⟩;have Kj:decide (next.kept=rk.kept/\upto < 0)=bq:=by rw [<- Hz,<- Hy,<- Ku,Bool.decide_and]
 have Hk:=zAa w (.cells #[.int .i64 next.me,.int .i64 next.kept.view,.int .i64 next.kept.normal,.bool next.kept.calm,.slice Au nu cu,.int .i64 next.kept.commit,hv,wv,gv,nv] 47);have HI:=mA (show StS s w (w.alloc (.cells #[.int .i64 next.me,.int .i64 next.kept.view,.int .i64 next.kept.normal,.bool next.kept.calm,.slice Au nu cu,.int .i64 next.kept.commit,hv,wv,gv,nv] 47)) base gx w.heap.size x _ _ fv cv tv next (.slice Au nu cu) hv wv gv nv (.slice A ms.length c) ms from
  ⟨hN.below Hk,Blk.new _ _ _,Hi.below Hk,IsMs.below Kg Hk,Fr.of Hk hb,mD hb Hk.size⟩)
 have Hq:=mA (World.rangeAt_alloc Hw (.cells #[.int .i64 next.me,.int .i64 next.kept.view,.int .i64 next.kept.normal,.bool next.kept.calm,.slice Au nu cu,.int .i64 next.kept.commit,hv,wv,gv,nv] 47));have Hr:=mA (Hp.log.below Hk);have Kk:=mA Kh;have HY:=mA hy;have Kl:=mA Hj;have Kv:=mA Kf;have Hs:=mA Hz;have Ka:=mA Hy;have Km:=mA Kj;have Vf:(r:Int) < (x.replicas.length:Int):=by omega
 have Vg:(r:Int) < (x.slots.length:Int):=by omega
 clear hN Hi Kg Hp Kh Hx Hk Kt Hw hy Hj Kf Hz Hy Kj hg Hl;cases s
 case' false =>
  change Calls Tryz.prog 51 _ _ _;go_enter Tryz.func51,Tryz.ntmps51
 case' true =>
  change Calls Tryz.prog 36 _ _ _;go_enter Tryz.func36,Tryz.ntmps36
 all_goals
  go_upto_region 1 with fail
  obtain ⟨Wd,Kb⟩:=mJ (w.alloc (.cells #[.int .i64 next.me,.int .i64 next.kept.view,.int .i64 next.kept.normal,.bool next.kept.calm,.slice Au nu cu,.int .i64 next.kept.commit,hv,wv,gv,nv] 47));rw [<- Kb] at HI Hq Hr ⊢;have gl:gr < Wd.heap.size:=by rw [Kb];simp;omega
  clear Kb;obtain ⟨gb,Kn⟩:=mK (w.heap.size);rw [Kn] at HI ⊢;clear Kn;go_cut [27] from 13 to 26 (fun bv wx=>bv=.bool bq/\Below Wd.heap.size Wd wx)
  case first =>
   cases ub with
   | true =>
     first
     | have Ha:Below Wd.heap.size Wd Wd.drew:=(mG _ _).drew
       refine rgF (Below Wd.heap.size Wd) [] [0,1,2,3,4,5,6,7,8,9] Ha ?_;iterate 10
        first
        | (refine tkc (v:=?_) rfl (Or.inl ⟨by rfl,?_⟩) ?_;rotate_left;(intro wv Hb;obtain ⟨d0,d1,d2,d3,d4⟩:=cz5 (HI.out.net.box.same Hb);obtain ⟨b0,b1,b2,b3,b4,b5,b6,b7,b8,b9⟩:=cz10 (HI.out.box.same Hb);(obtain ⟨p0,p1,p2,p3,p4,p5,p6,p7,p8,p9⟩:=rg10 (rgb Hb gl Hq.out));go_simp;with_reducible rfl);(try simp only [Act.put,zp1,zp2,zp3]))
        | (refine tkc (v:=undef) rfl (Or.inr ⟨by rfl,rfl⟩) ?_;(try simp only [Act.put,zp1,zp2,zp3]))
       exact zH4
     | have Ha:Below Wd.heap.size Wd Wd.drew:=(mG _ _).drew
       refine rgF (Below Wd.heap.size Wd) [] [0,1,2,3,4,5,6,7,8,9,10,11,12] Ha ?_;iterate 13
        first
        | (refine tkc (v:=?_) rfl (Or.inl ⟨by rfl,?_⟩) ?_;rotate_left;(intro wv Hb;obtain ⟨d0,d1,d2,d3,d4⟩:=cz5 (HI.out.net.box.same Hb);obtain ⟨b0,b1,b2,b3,b4,b5,b6,b7,b8,b9⟩:=cz10 (HI.out.box.same Hb);(obtain ⟨p0,p1,p2,p3,p4,p5,p6,p7,p8,p9⟩:=rg10 (rgb Hb gl Hq.out));go_simp;with_reducible rfl);(try simp only [Act.put,zp1,zp2,zp3]))
        | (refine tkc (v:=undef) rfl (Or.inr ⟨by rfl,rfl⟩) ?_;(try simp only [Act.put,zp1,zp2,zp3]))
       refine tkz (fun Hc=>?_);refine alF 13 (fun KA He=>?_);go_simp;refine (zHs (.slice Au nu cu) (.slice Ak nk ck) next.kept rk.kept Wd.drew 0 0 (HI.out.rep.log.below Ha) (Hr.out.below Ha)).mono ?_;rw [Ka.out];rintro en x1 ⟨rfl,k1⟩;have Ha:=Ha.trans k1;refine He _ _ ⟨.inr Ha,?_⟩;cases qb
       all_goals
        refine puT ?_;refine tkFs 16 [14] Ha (shF Hc 13) ?_;iterate 1
         first
         | (refine tkc (v:=?_) rfl (Or.inl ⟨by rfl,?_⟩) ?_;rotate_left;(intro wv Hb;obtain ⟨d0,d1,d2,d3,d4⟩:=cz5 (HI.out.net.box.same Hb);obtain ⟨b0,b1,b2,b3,b4,b5,b6,b7,b8,b9⟩:=cz10 (HI.out.box.same Hb);skip;go_simp;with_reducible rfl);(try simp only [Act.put,zp1,zp2,zp3]))
         | (refine tkc (v:=undef) rfl (Or.inr ⟨by rfl,rfl⟩) ?_;(try simp only [Act.put,zp1,zp2,zp3]))
        refine tkz (fun Hc=>?_);refine zAe (by kernel_rfl) ?_ _;change Exit.then _ _ _ _ x1;go_wp2_with fail
        go_meet
        exact ⟨by rw [<- Hs.out];rfl,Ha⟩
   | false =>
     first
     | have Ha:Below Wd.heap.size Wd Wd.drew:=(mG _ _).drew
       refine rgF (Below Wd.heap.size Wd) [] [0,1,2,3,4,5,6,7,8,9] Ha ?_;iterate 10
        first
        | (refine tkc (v:=?_) rfl (Or.inl ⟨by rfl,?_⟩) ?_;rotate_left;(intro wv Hb;obtain ⟨d0,d1,d2,d3,d4⟩:=cz5 (HI.out.net.box.same Hb);obtain ⟨b0,b1,b2,b3,b4,b5,b6,b7,b8,b9⟩:=cz10 (HI.out.box.same Hb);(obtain ⟨p0,p1,p2,p3,p4,p5,p6,p7,p8,p9⟩:=rg10 (rgb Hb gl Hq.out));go_simp;with_reducible rfl);(try simp only [Act.put,zp1,zp2,zp3]))
        | (refine tkc (v:=undef) rfl (Or.inr ⟨by rfl,rfl⟩) ?_;(try simp only [Act.put,zp1,zp2,zp3]))
       exact zH4
     | have Ha:Below Wd.heap.size Wd Wd.drew:=(mG _ _).drew
       refine rgF (Below Wd.heap.size Wd) [] [0,1,2,3,4,5,6,7,8,9,10,11,12,13,14] Ha ?_;iterate 15
        first
        | (refine tkc (v:=?_) rfl (Or.inl ⟨by rfl,?_⟩) ?_;rotate_left;(intro wv Hb;obtain ⟨d0,d1,d2,d3,d4⟩:=cz5 (HI.out.net.box.same Hb);obtain ⟨b0,b1,b2,b3,b4,b5,b6,b7,b8,b9⟩:=cz10 (HI.out.box.same Hb);skip;go_simp;with_reducible rfl);(try simp only [Act.put,zp1,zp2,zp3]))
        | (refine tkc (v:=undef) rfl (Or.inr ⟨by rfl,rfl⟩) ?_;(try simp only [Act.put,zp1,zp2,zp3]))
       refine tkz (fun Hc=>?_);cases qb
       all_goals
        refine zAe (by kernel_rfl) ?_ _;change Exit.then _ _ _ _ Wd.drew;go_wp2_with fail
        go_meet
        exact ⟨by rw [<- Hs.out];rfl,Ha⟩
  case rest =>
   obtain ⟨rfl,Ht⟩:=hcut;obtain ⟨x1,Ko⟩:=mJ (wc);rw [<- Ko] at Ht ⊢;have HI:=mA (HI.out.below Ht);have gl:=mF gl Ht.size;have gsl:gs < x1.heap.size:=by have:=HI.out.net.slotAt hs;obtain ⟨g',c',u',e',Vh,Kw,_⟩:=this;cases e';exact Kw
   clear Ko Ht;cases bq with
   | true =>
     have hq:next.kept=rk.kept/\upto < 0:=of_decide_eq_true Km.out;have Hf:=mA (show y = { x with replicas:=x.replicas.set r next,flying:=Scu.sendAll x.flying ms }/\f=0 by have h:=HY.out;rw [if_pos hq] at h;exact ⟨(Prod.mk.inj h).1.symm,(Prod.mk.inj h).2.symm⟩);clear hq;go_upto_region 2 with fail
     obtain ⟨_,_,_,_,_,_,_,er2,_,_,_,_,Hm,_⟩:=HI.out.net.repAt hr;have Hd:World.there x1.drew gr (r*10) 10:=by cases er2;exact Hm
     clear er2 Hm;have Ha:Below x1.heap.size x1 x1.drew:=(mG _ _).drew;refine rgF (Below x1.heap.size x1) [7] [0,1,2,3,4,5,6] Ha ?_;iterate 7
      first
      | (refine tkc (v:=?_) rfl (Or.inl ⟨by rfl,?_⟩) ?_;rotate_left;(intro wv Hb;obtain ⟨d0,d1,d2,d3,d4⟩:=cz5 (HI.out.net.box.same Hb);obtain ⟨b0,b1,b2,b3,b4,b5,b6,b7,b8,b9⟩:=cz10 (HI.out.box.same Hb);skip;go_simp;with_reducible rfl);(try simp only [Act.put,zp1,zp2,zp3]))
      | (refine tkc (v:=undef) rfl (Or.inr ⟨by rfl,rfl⟩) ?_;(try simp only [Act.put,zp1,zp2,zp3]))
     refine tkz (fun Hc=>?_);refine alF 7 (fun KU Hn=>?_);rw [if_pos (by rfl)];refine wp_store_mid 47 (.tmp 34) (.tmp 33) rfl gr (r*10) (repV next (.slice Au nu cu) hv wv gv nv).toArray rfl rfl Hd (by kernel_rfl) (all_oneCell_toArray (zJp HI.out.rep)) ?_;refine Hn _ _ ⟨.inl (by simp),zAe (by kernel_rfl) ?_ _⟩;refine puT ?_;clear Hn Ha Hd;obtain ⟨W2,Ho⟩:=mJ (x1.drew.setCells gr (r*10) (repV next (.slice Au nu cu) hv wv gv nv));have HP:=(HI.out.below (mG _ _).drew).put (k:=r) hr;change Exit.then _ _ _ _ (x1.drew.setCells gr (r*10) (repV next (.slice Au nu cu) hv wv gv nv));rw [<- Ho] at HP ⊢;have HP:=mA HP;clear Ho;go_wp2_with fail
     refine (zWb _ A c ms W2 base gx { x with replicas:=(x).replicas.set r next } _ _ _ _ _ HP.out.1 HP.out.2.2.2 HP.out.2.2.1 Kk.out Ki).mono ?_;rintro en w9 ⟨rfl,Hg,Hh⟩;exact zJ4
   | false =>
     have hq:¬ (next.kept=rk.kept/\upto < 0):=of_decide_eq_false Km.out;have HY:=mA (show (if f'≠0 then (x,f') else if 0<=upto then Scu.crash { x with slots:=x.slots.set r l' } r else ({ x with slots:=x.slots.set r l',replicas:=x.replicas.set r next,flying:=Scu.sendAll x.flying ms },0))=(y,f) by have h:=HY.out;rw [if_neg hq] at h;exact h);clear hq;go_upto_region 5 with fail
     obtain ⟨g',c',us',e',-,-,Kc,Hu,-⟩:=HI.out.net.slotAt hs;obtain ⟨e1,rfl⟩:=slq e';cases e1
     obtain ⟨Av,nv',cv',rfl⟩:=Kc.form;have Kp:=mA Kc;clear e' Kc;have Ha:Below x1.heap.size x1 x1.drew:=(mG _ _).drew;refine rgF (Below x1.heap.size x1) [] [0,1,2,3,4,5,6,7,8,9] Ha ?_;iterate 10
      first
      | (refine tkc (v:=?_) rfl (Or.inl ⟨by rfl,?_⟩) ?_;rotate_left;(intro wv Hb;obtain ⟨d0,d1,d2,d3,d4⟩:=cz5 (HI.out.net.box.same Hb);obtain ⟨b0,b1,b2,b3,b4,b5,b6,b7,b8,b9⟩:=cz10 (HI.out.box.same Hb);(have q1:=cW Hb gsl Hu);go_simp;with_reducible rfl);(try simp only [Act.put,zp1,zp2,zp3]))
      | (refine tkc (v:=undef) rfl (Or.inr ⟨by rfl,rfl⟩) ?_;(try simp only [Act.put,zp1,zp2,zp3]))
     refine tkz (fun Hc=>?_);refine alF 10 (fun KA He=>?_);go_simp;first
     | refine (zSe false _ _ x.slots[r] next.kept upto x1.drew 0 0 (Kp.out.below Ha) (HI.out.rep.log.below Ha) l' f' Kl.out).mono ?_
     | refine (zSe true _ _ x.slots[r] next.kept upto x1.drew 0 0 (Kp.out.below Ha) (HI.out.rep.log.below Ha) l' f' Kl.out).mono ?_
     rintro en x2 ⟨⟨Aw,nw,cw,rfl,Kq⟩,k1⟩;have Ha:=Ha.trans k1;refine He _ _ ⟨.inr Ha,?_⟩;refine puT ?_;refine tkFs 16 [11,12,13,14,15] Ha (shF Hc 10) ?_;iterate 5
      first
      | (refine tkc (v:=?_) rfl (Or.inl ⟨by rfl,?_⟩) ?_;rotate_left;(intro wv Hb;obtain ⟨d0,d1,d2,d3,d4⟩:=cz5 (HI.out.net.box.same Hb);obtain ⟨b0,b1,b2,b3,b4,b5,b6,b7,b8,b9⟩:=cz10 (HI.out.box.same Hb);skip;go_simp;with_reducible rfl);(try simp only [Act.put,zp1,zp2,zp3]))
      | (refine tkc (v:=undef) rfl (Or.inr ⟨by rfl,rfl⟩) ?_;(try simp only [Act.put,zp1,zp2,zp3]))
     refine tkz (fun Hc=>?_);refine zAe (by kernel_rfl) ?_ _;change Exit.then _ _ _ _ x2;have HI:=mA (HI.out.below Ha);have gl:=mF gl Ha.size;have Kx:=mA Kq;clear Hu gsl Ha k1 Kq He;by_cases Hv:f'=0
     ·subst Hv;have HY:=mA (show (if 0<=upto then Scu.crash { x with slots:=x.slots.set r l' } r else ({ x with slots:=x.slots.set r l',replicas:=x.replicas.set r next,flying:=Scu.sendAll x.flying ms },0))=(y,f) by have h:=HY.out;rw [if_neg (by simp)] at h;exact h);obtain ⟨g',c',u9,e',-,gsl,-,Hu,Kr,curs,Ks⟩:=HI.out.net.slotAt hs;cases e'
      obtain ⟨-,d1,-⟩:=cz3 HI.out.net.box;have dl:=HI.out.net.box.lt;have nxs:gx≠gs:=zAw HI.out.net.box Ks (by decide);have Ky:=Kr r;have Hj:=HI.out.slot (k:=r) hs Kx.out;go_upto_region 9 with fail
      obtain ⟨W3,Kd⟩:=mJ (x2.setCell ⟨gs,r,none⟩ (.slice Aw nw cw));rw [<- Kd] at Hj ⊢;have gl:gr < W3.heap.size:=by rw [Kd];simpa [World.setCell] using gl
      have HI:=mA Hj;clear Kd Hj d1 dl Hu Ky Kr Ks gsl nxs;by_cases Ke:0<=upto
      ·have Kz:¬ upto < 0:=by omega
       have Va:=mA (show Scu.crash { x with slots:=x.slots.set r l' } r=(y,f) by have h:=HY.out;rw [if_pos Ke] at h;exact h);go_wp2_with fail
       refine (zSc _ r W3 base gx { x with slots:=x.slots.set r l' } _ _ _ _ _ HI.out.net HI.out.le hr (by rw [List.length_set];exact hs) Kv.out y f Va.out).mono ?_;rintro en w9 ⟨rfl,Hg,Hh⟩;have H9:=mA (mB Hg (HI.out.fr.trans Hh));clear Hg Hh;go_wp2
       go_ret
       exact ⟨rfl,H9.out.1,H9.out.2⟩
      have Hf:=mA (show y = { x with slots:=x.slots.set r l',replicas:=x.replicas.set r next,flying:=Scu.sendAll x.flying ms }/\f=0 by have h:=HY.out;rw [if_neg Ke] at h;exact ⟨(Prod.mk.inj h).1.symm,(Prod.mk.inj h).2.symm⟩);go_upto_region 11 with fail
      clear Ke;obtain ⟨_,_,_,_,_,_,_,er2,_,_,_,_,Hm,_⟩:=HI.out.net.repAt hr;have Hd:World.there W3.drew gr (r*10) 10:=by cases er2;exact Hm
      clear er2 Hm;have Ha:Below W3.heap.size W3 W3.drew:=(mG _ _).drew;refine rgF (Below W3.heap.size W3) [7] [0,1,2,3,4,5,6] Ha ?_;iterate 7
       first
       | (refine tkc (v:=?_) rfl (Or.inl ⟨by rfl,?_⟩) ?_;rotate_left;(intro wv Hb;obtain ⟨d0,d1,d2,d3,d4⟩:=cz5 (HI.out.net.box.same Hb);obtain ⟨b0,b1,b2,b3,b4,b5,b6,b7,b8,b9⟩:=cz10 (HI.out.box.same Hb);skip;go_simp;with_reducible rfl);(try simp only [Act.put,zp1,zp2,zp3]))
       | (refine tkc (v:=undef) rfl (Or.inr ⟨by rfl,rfl⟩) ?_;(try simp only [Act.put,zp1,zp2,zp3]))
      refine tkz (fun Hc=>?_);refine alF 7 (fun KU Hn=>?_);rw [if_pos (by rfl)];refine wp_store_mid 47 (.tmp 73) (.tmp 72) rfl gr (r*10) (repV next (.slice Au nu cu) hv wv gv nv).toArray rfl rfl Hd (by kernel_rfl) (all_oneCell_toArray (zJp HI.out.rep)) ?_;refine Hn _ _ ⟨.inl (by simp),zAe (by kernel_rfl) ?_ _⟩;refine puT ?_;clear Hn Ha Hd;obtain ⟨W2,Ho⟩:=mJ (W3.drew.setCells gr (r*10) (repV next (.slice Au nu cu) hv wv gv nv));have HP:=(HI.out.below (mG _ _).drew).put (k:=r) hr;change Exit.then _ _ _ _ (W3.drew.setCells gr (r*10) (repV next (.slice Au nu cu) hv wv gv nv));rw [<- Ho] at HP ⊢;have HP:=mA HP;clear Ho;go_wp2_with fail
      refine (zWb _ A c ms W2 base gx { { x with slots:=x.slots.set r l' } with replicas:=({ x with slots:=x.slots.set r l' }).replicas.set r next } _ _ _ _ _ HP.out.1 HP.out.2.2.2 HP.out.2.2.1 Kk.out Ki).mono ?_;rintro en w9 ⟨rfl,Hg,Hh⟩;exact zJ4
     ·have Vi:(f' != 0)=true:=by simpa using Hv
      have Hf:=mA (show y=x/\f=f' by have h:=HY.out;rw [if_pos Hv] at h;exact ⟨(Prod.mk.inj h).1.symm,(Prod.mk.inj h).2.symm⟩);clear Hv;go_wp2
      go_ret
      exact ⟨zAb (zAd Hf.out.2.symm),by rw [Hf.out.1];exact HI.out.net.e,HI.out.fr⟩
open Go.RowKit
theorem zIi {w w':World} {rr:Scu.Replica} {ms:List Scu.Message} {f:Int} {e:Ending} (h:TellN w.heap.size w' rr ms f e) (hb:Below w.heap.size w w'):(∃ E0 m0 z0 E1 z1 E2 z2 E3 z3 E4 z4 Ao co,e=.returned (.tuple #[.agg #[.int .i64 rr.me,.int .i64 rr.kept.view,.int .i64 rr.kept.normal,.bool rr.kept.calm,.slice E0 m0 z0,.int .i64 rr.kept.commit,.slice E1 rr.have_.length z1,.slice E2 rr.wants.length z2,.slice E3 rr.gives.length z3,.slice E4 rr.given.length z4],.slice Ao ms.length co,.int .i64 f])/\IsRep w' 0 (.slice E0 m0 z0) (.slice E1 rr.have_.length z1) (.slice E2 rr.wants.length z2) (.slice E3 rr.gives.length z3) (.slice E4 rr.given.length z4) rr/\IsRow 99 8 80 MsgE w' 0 (.slice Ao ms.length co) ms/\∀ g,(Value.slice Ao ms.length co).ownBlock=some g->w.heap.size<=g)/\Below w.heap.size w w':=by
 obtain ⟨lu,hv,wv,gv,nv,ov,rfl,h1,h2,h3⟩:=h;obtain ⟨E0,m0,z0,E1,z1,E2,z2,E3,z3,E4,z4,rfl,rfl,rfl,rfl,rfl⟩:=h1.forms;obtain ⟨A,c,_,rfl,_⟩:=h2.ex;exact ⟨⟨_,_,_,_,_,_,_,_,_,_,_,_,_,rfl,h1,h2,h3⟩,hb⟩
theorem zI4 {P:Prop} (h:P:=by
 rw [h] at this;exact this.mono fun e w' ⟨h1,h2⟩=>zIi h1 h2):P:=h
theorem zZi (lv hv wv gv nv:Value) (r:Scu.Replica) (w:World) (B:Nat) (hr:IsRep w B lv hv wv gv nv r) (rr:Scu.Replica) (ms:List Scu.Message) (f:Int) (h:Scu.tick r=(rr,ms,f)) :
 Calls Tryz.prog 53 #[.agg #[.int .i64 r.me,.int .i64 r.kept.view,.int .i64 r.kept.normal,.bool r.kept.calm,lv,.int .i64 r.kept.commit,hv,wv,gv,nv]] w fun e w'=>(∃ E0 m0 z0 E1 z1 E2 z2 E3 z3 E4 z4 Ao co,e=.returned (.tuple #[.agg #[.int .i64 rr.me,.int .i64 rr.kept.view,.int .i64 rr.kept.normal,.bool rr.kept.calm,.slice E0 m0 z0,.int .i64 rr.kept.commit,.slice E1 rr.have_.length z1,.slice E2 rr.wants.length z2,.slice E3 rr.gives.length z3,.slice E4 rr.given.length z4],.slice Ao ms.length co,.int .i64 f])/\IsRep w' 0 (.slice E0 m0 z0) (.slice E1 rr.have_.length z1) (.slice E2 rr.wants.length z2) (.slice E3 rr.gives.length z3) (.slice E4 rr.given.length z4) rr/\IsRow 99 8 80 MsgE w' 0 (.slice Ao ms.length co) ms/\∀ g,(Value.slice Ao ms.length co).ownBlock=some g->w.heap.size<=g)/\Below w.heap.size w w':=by
 have:=zYv lv hv wv gv nv r w B hr;exact zI4
theorem zXl (lv hv wv gv nv:Value) (r:Scu.Replica) (w:World) (B:Nat) (hr:IsRep w B lv hv wv gv nv r) (rr:Scu.Replica) (ms:List Scu.Message) (f:Int) (h:Scu.alarm r=(rr,ms,f)) :
 Calls Tryz.prog 54 #[.agg #[.int .i64 r.me,.int .i64 r.kept.view,.int .i64 r.kept.normal,.bool r.kept.calm,lv,.int .i64 r.kept.commit,hv,wv,gv,nv]] w fun e w'=>(∃ E0 m0 z0 E1 z1 E2 z2 E3 z3 E4 z4 Ao co,e=.returned (.tuple #[.agg #[.int .i64 rr.me,.int .i64 rr.kept.view,.int .i64 rr.kept.normal,.bool rr.kept.calm,.slice E0 m0 z0,.int .i64 rr.kept.commit,.slice E1 rr.have_.length z1,.slice E2 rr.wants.length z2,.slice E3 rr.gives.length z3,.slice E4 rr.given.length z4],.slice Ao ms.length co,.int .i64 f])/\IsRep w' 0 (.slice E0 m0 z0) (.slice E1 rr.have_.length z1) (.slice E2 rr.wants.length z2) (.slice E3 rr.gives.length z3) (.slice E4 rr.given.length z4) rr/\IsRow 99 8 80 MsgE w' 0 (.slice Ao ms.length co) ms/\∀ g,(Value.slice Ao ms.length co).ownBlock=some g->w.heap.size<=g)/\Below w.heap.size w w':=by
 have:=zXa lv hv wv gv nv r w B hr;exact zI4
theorem zZj (lv hv wv gv nv:Value) (r:Scu.Replica) (s:Scu.Str) (hs:s.size<=R47) (w:World) (B:Nat) (hr:IsRep w B lv hv wv gv nv r) (rr:Scu.Replica) (ms:List Scu.Message) (f:Int) (h:Scu.take r s=(rr,ms,f)) :
 Calls Tryz.prog 50 #[.agg #[.int .i64 r.me,.int .i64 r.kept.view,.int .i64 r.kept.normal,.bool r.kept.calm,lv,.int .i64 r.kept.commit,hv,wv,gv,nv],.string s] w fun e w'=>(∃ E0 m0 z0 E1 z1 E2 z2 E3 z3 E4 z4 Ao co,e=.returned (.tuple #[.agg #[.int .i64 rr.me,.int .i64 rr.kept.view,.int .i64 rr.kept.normal,.bool rr.kept.calm,.slice E0 m0 z0,.int .i64 rr.kept.commit,.slice E1 rr.have_.length z1,.slice E2 rr.wants.length z2,.slice E3 rr.gives.length z3,.slice E4 rr.given.length z4],.slice Ao ms.length co,.int .i64 f])/\IsRep w' 0 (.slice E0 m0 z0) (.slice E1 rr.have_.length z1) (.slice E2 rr.wants.length z2) (.slice E3 rr.gives.length z3) (.slice E4 rr.given.length z4) rr/\IsRow 99 8 80 MsgE w' 0 (.slice Ao ms.length co) ms/\∀ g,(Value.slice Ao ms.length co).ownBlock=some g->w.heap.size<=g)/\Below w.heap.size w w':=by
 have:=zZf lv hv wv gv nv r s hs w B hr;exact zI4
theorem zZk (lv hv wv gv nv xv:Value) (r:Scu.Replica) (m:Scu.Message) (w:World) (B:Nat) (hr:IsRep w B lv hv wv gv nv r) (hx:IsStrs w B xv m.log) (rr:Scu.Replica) (ms:List Scu.Message) (f:Int) (h:Scu.hear r m=(rr,ms,f)) :
 Calls Tryz.prog 56 #[.agg #[.int .i64 r.me,.int .i64 r.kept.view,.int .i64 r.kept.normal,.bool r.kept.calm,lv,.int .i64 r.kept.commit,hv,wv,gv,nv],.agg #[.int .i64 m.kind,.int .i64 m.from_,.int .i64 m.tq,.int .i64 m.view,.int .i64 m.normal,.int .i64 m.commit,.int .i64 m.n,xv]] w fun e w'=>(∃ E0 m0 z0 E1 z1 E2 z2 E3 z3 E4 z4 Ao co,e=.returned (.tuple #[.agg #[.int .i64 rr.me,.int .i64 rr.kept.view,.int .i64 rr.kept.normal,.bool rr.kept.calm,.slice E0 m0 z0,.int .i64 rr.kept.commit,.slice E1 rr.have_.length z1,.slice E2 rr.wants.length z2,.slice E3 rr.gives.length z3,.slice E4 rr.given.length z4],.slice Ao ms.length co,.int .i64 f])/\IsRep w' 0 (.slice E0 m0 z0) (.slice E1 rr.have_.length z1) (.slice E2 rr.wants.length z2) (.slice E3 rr.gives.length z3) (.slice E4 rr.given.length z4) rr/\IsRow 99 8 80 MsgE w' 0 (.slice Ao ms.length co) ms/\∀ g,(Value.slice Ao ms.length co).ownBlock=some g->w.heap.size<=g)/\Below w.heap.size w w':=by
 have:=zZe lv hv wv gv nv xv r m w B hr hx;exact zI4
theorem zBu {w:World} {g n:Nat} {t:TypeId} {cs:Array Value} (h:Blk w g t cs) (hn:cs.size=n:=by rfl):w.there g 0 n:=fun j hj=>by
 rw [Nat.zero_add,h.cell];exact ⟨by simp [hn,hj],h.frozen j⟩
theorem zSf {Wd x1 X:World} {gb:Nat} {rr:Scu.Replica} {ms:List Scu.Message} {E0:Option Addr} {m0 z0:Nat} {E1:Option Addr} {z1:Nat} {E2:Option Addr} {z2:Nat} {E3:Option Addr} {z3:Nat} {E4:Option Addr} {z4:Nat} {ov:Value} {b0 b1 b2 b3 b4 b5 b6 b7 b8 b9:Value}
 (h1:IsRep x1 0 (.slice E0 m0 z0) (.slice E1 rr.have_.length z1) (.slice E2 rr.wants.length z2) (.slice E3 rr.gives.length z3) (.slice E4 rr.given.length z4) rr) (h2:IsRow 99 8 80 MsgE x1 0 ov ms)
 (hX:Below Wd.heap.size Wd X) (hB:Blk X gb 47 #[b0,b1,b2,b3,b4,b5,b6,b7,b8,b9]) (hg:Wd.heap.size<=gb) (hx:Below x1.heap.size x1 X) :
 Below Wd.heap.size Wd (X.setCells gb 0 [.int .i64 rr.me,.int .i64 rr.kept.view,.int .i64 rr.kept.normal,.bool rr.kept.calm,.slice E0 m0 z0,.int .i64 rr.kept.commit,.slice E1 rr.have_.length z1,.slice E2 rr.wants.length z2,.slice E3 rr.gives.length z3,.slice E4 rr.given.length z4])/\Blk (X.setCells gb 0 [.int .i64 rr.me,.int .i64 rr.kept.view,.int .i64 rr.kept.normal,.bool rr.kept.calm,.slice E0 m0 z0,.int .i64 rr.kept.commit,.slice E1 rr.have_.length z1,.slice E2 rr.wants.length z2,.slice E3 rr.gives.length z3,.slice E4 rr.given.length z4]) gb 47 #[.int .i64 rr.me,.int .i64 rr.kept.view,.int .i64 rr.kept.normal,.bool rr.kept.calm,.slice E0 m0 z0,.int .i64 rr.kept.commit,.slice E1 rr.have_.length z1,.slice E2 rr.wants.length z2,.slice E3 rr.gives.length z3,.slice E4 rr.given.length z4] /\
  IsRep (X.setCells gb 0 [.int .i64 rr.me,.int .i64 rr.kept.view,.int .i64 rr.kept.normal,.bool rr.kept.calm,.slice E0 m0 z0,.int .i64 rr.kept.commit,.slice E1 rr.have_.length z1,.slice E2 rr.wants.length z2,.slice E3 rr.gives.length z3,.slice E4 rr.given.length z4]) 0 (.slice E0 m0 z0) (.slice E1 rr.have_.length z1) (.slice E2 rr.wants.length z2) (.slice E3 rr.gives.length z3) (.slice E4 rr.given.length z4) rr/\IsRow 99 8 80 MsgE (X.setCells gb 0 [.int .i64 rr.me,.int .i64 rr.kept.view,.int .i64 rr.kept.normal,.bool rr.kept.calm,.slice E0 m0 z0,.int .i64 rr.kept.commit,.slice E1 rr.have_.length z1,.slice E2 rr.wants.length z2,.slice E3 rr.gives.length z3,.slice E4 rr.given.length z4]) 0 ov ms:=by
 have hs:Same [9,3,4,42,99] 0 X (X.setCells gb 0 (rL rr E0 m0 z0 E1 z1 E2 z2 E3 z3 E4 z4)):=Same.sets _ 0 X _ hB (by decide);exact ⟨zAr hg _ 0 _ _ hX,zHu (xs:=[b0,b1,b2,b3,b4,b5,b6,b7,b8,b9]) hB rfl,(h1.below hx).same (hs.mono (by simp) (mC _)),IsMs.keep (IsMs.below h2 hx) (hs.mono (by simp) (mC _))⟩
end Go.Proofs.YtlngfbngnnepiaaGreat
