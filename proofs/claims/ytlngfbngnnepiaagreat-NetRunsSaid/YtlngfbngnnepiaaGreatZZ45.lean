/- Part 45: words and walks under the laws of the whole. -/
import Derived.Test.YtlngfbngnnepiaaGreatZZ44
set_option linter.unusedVariables false
set_option linter.unusedSimpArgs false
set_option maxHeartbeats 4000000
set_option maxRecDepth 100000
namespace Go.Proofs.YtlngfbngnnepiaaGreat
open Go.RowKit
theorem NetG.hear {s:Bool} {W0:World} {base gx:Nat} {x:Scu.Net} {rv sv fv cv tv:Value} (_:NetG s W0 base gx x rv sv fv cv tv) (lv hv wv gv nv:Value) (r:Scu.Replica) (w:World) (hr:IsRep w 0 lv hv wv gv nv r) (rr:Scu.Replica) (ms:List Scu.Message) (f:Int) (xv:Value) (m:Scu.Message) (hx:IsStrs w 0 xv m.log) {q:Nat} (hq:m.tq=q) (h:Scu.hear r m=(rr,ms,f)) :
 Calls Tryz.prog (fHear s) #[.agg #[.int .i64 r.me,.int .i64 r.kept.view,.int .i64 r.kept.normal,.bool r.kept.calm,lv,.int .i64 r.kept.commit,hv,wv,gv,nv],.agg #[.int .i64 m.kind,.int .i64 m.from_,.int .i64 q,.int .i64 m.view,.int .i64 m.normal,.int .i64 m.commit,.int .i64 m.n,xv]] w (AskQ w rr ms f):=zZo s lv hv wv gv nv r w hr rr ms f xv m hx hq h
theorem zA6 {P:Prop} (h:P:=by
 clear hj;obtain ⟨i0,h0⟩:=mK (decide (a.k < 0));obtain ⟨i1,h1⟩:=mK (decide ((x.flying.length:Int)<=a.k));have Km:=zEs h0 h1 (hi:=(x.flying.length:Int) - 1) (by omega);have Vm:(x.flying.length:Int)<=80:=by have:=hC.fly.1;omega
 obtain ⟨B0,e0,B1,e1,B2,e2,B3,e3,B4,e4,rfl,rfl,rfl,rfl,rfl⟩:=hN.forms;have Kd:=zAa w (.cells (aN a) 57);have HS:=mA (show AcS s w (w.alloc (.cells (aN a) 57)) base gx x a _ _ _ _ _ from ⟨hN.below Kd,Blk.new w 57 (aN a),Fr.of Kd hb,hb⟩);have HC:=mA hC;obtain ⟨k,Hv⟩:=Int.eq_ofNat_of_zero_le (show 0<=a.k by omega);obtain ⟨rfl,rfl⟩:i0=false/\i1=false:=by rw [<- h0,<- h1];simp only [decide_eq_false_iff_not];omega
 have Hi:k < x.flying.length:=by omega
 have Gf:(k:Int) < (x.flying.length:Int):=by omega
 obtain ⟨m,hm⟩:=mK (x.flying[k]);have Kn:=hC.fly.2 m (hm ▸ List.getElem_mem Hi);have hg:x.flying.getD k Scu.msg0=m:=by rw [mI,mH Hi];exact hm
 unfold Scu.actMessage at hy;rw [if_neg hr,Hv,Int.toNat_natCast,hg] at hy;dsimp only at hy
 rw [Hv] at h0 h1 Km;have Hs:=mA Hv;have HM:=mA hm;have Vn:=mA Kn;have HY:=mA hy;have Hk:=mA hk;clear Hv hr hy hg hC hm Kn hN Kd hk;cases s
 case' false =>
  change Calls Tryz.prog 25 _ _ _;go_enter Tryz.func25,Tryz.ntmps25
 case' true =>
  change Calls Tryz.prog 15 _ _ _;go_enter Tryz.func15,Tryz.ntmps15
 all_goals
  go_upto_region 1 with fail
  obtain ⟨Wd,He⟩:=mJ (w.alloc (.cells (aN a) 57));rw [<- He] at HS ⊢;clear He;obtain ⟨a0,a1,a2,a3,a4,a5,a6,a7,a8⟩:=cz9 HS.out.ab;have al:=HS.out.ab.lt;obtain ⟨d0,d1,d2,d3,d4⟩:=cz5 HS.out.net.box;have dl:=HS.out.net.box.lt;rw [Hs.out] at a3;rw [Hk.out] at a0;obtain ⟨gf,cf,lu,ef,-,Ko,Hw,Hp,-⟩:=HS.out.net.flyAt Hi;obtain ⟨rfl,rfl⟩:=slq ef;rw [HM.out] at Hw Hp;obtain ⟨Al,nl,cl,rfl⟩:=Hw.form;have Vo:=mA Hp;have Vp:=mA Hw;clear ef Hw Hp;go_wp2_with fail
  go_quiet ((go_at_call 12;exact zBk ((zAt _ _ _ _).mono fun _ _ h=>⟨by rw [h.1,Km],0,h.2.symm⟩)))
  go_wp2_with fail
  obtain ⟨W1,Hx⟩:=mJ (Wd.drewN nq);have h1:Below Wd.heap.size Wd W1:=by rw [Hx];exact below_drewN (mG _ _) _
  have Hq:=mA (HS.out.below h1);have Ke:=mA (rgb h1 Ko Vo.out);have Kf:=mA (Vp.out.below h1);have gf1:=mF Ko h1.size;have Hc:Below W1.heap.size W1 (Wd.drewN nq).drew:=by rw [Hx];exact (mG _ _).drew
  refine rgF (Below W1.heap.size W1) [] [0,1,2,3,4,5,6,7] Hc ?_;rw [<- Hx];clear Hx h1 a0 a1 a2 a3 a4 a5 a6 a7 a8 al d0 d1 d2 d3 d4 dl;iterate 8
   (refine tkc (v:=?_) rfl (Or.inl ⟨by rfl,?_⟩) ?_;rotate_left;(intro wv Hd;(obtain ⟨-,-,d2⟩:=cz3 (Hq.out.net.box.same Hd);obtain ⟨-,-,-,a3⟩:=cz4 (Hq.out.ab.same Hd);rw [Hs.out] at a3;obtain ⟨t0,t1,t2,t3,t4,t5,t6,t7⟩:=rg8 (rgb Hd gf1 Ke.out));go_simp;with_reducible rfl);(try simp only [Act.put,zp1,zp2,zp3]))
  refine tkz (fun Hf=>?_);refine alF 8 (fun KA Hg=>?_);go_simp;have Hc:=(mG W1.heap.size W1).drew;have Hb:=Hc.alloc (mC _) (.cells #[.int .i64 0,.int .i64 0,.int .i64 0,.int .i64 0,.int .i64 0,.int .i64 0,.int .i64 0,.slice none 0 0] 99);refine Hg _ _ ⟨.inr Hb,?_⟩;refine puT ?_;refine alF 9 (fun KB Hh=>?_);rw [if_pos (by rfl)];have hz:=Blk.new' (w:=W1.drew) (g:=W1.heap.size) (t:=99) (cs:=#[.int .i64 0,.int .i64 0,.int .i64 0,.int .i64 0,.int .i64 0,.int .i64 0,.int .i64 0,.slice none 0 0]) rfl;refine wp_store_mid 99 _ _ rfl W1.heap.size 0 (mN m Al nl cl) rfl rfl (zBu hz) (by kernel_rfl) (by simp [Value.oneCell']) ?_;have Hn:=zAr (mC W1.heap.size) ((mN m Al nl cl)).toList 0 _ _ Hb;refine Hh _ _ ⟨.inr Hn,genF fun W2 Kp=>zAe (by kernel_rfl) ?_ _⟩;have Hy:=mA (zEt Kp Kf.out Hb hz (mC _));clear Kp Hc Hb Hn hz Hg Hh;refine puT ?_;change Exit.then _ _ _ _ W2;have Ha:=mA (Hq.out.below Hy.out.1);obtain ⟨gm,Kg⟩:=mK (W1.heap.size);have Ho:=mA (mB Hy.out.2.1 Hy.out.2.2);rw [Kg] at Ho gf1 ⊢;have Vq:base<=gm:=by rw [<- Kg];exact mD Hq.out.le Hq.out.fr.size
  clear Kg Hy;obtain ⟨a0,a1,a2,a3,a4,a5,a6,a7,a8⟩:=cz9 Ha.out.ab;rw [Hk.out] at a0;have al:=Ha.out.ab.lt;obtain ⟨d0,d1,d2,d3,d4⟩:=cz5 Ha.out.net.box;have dl:=Ha.out.net.box.lt;rw [Hs.out] at a3;obtain ⟨fss,Kq⟩:=Ha.out.net.fly;have Kr:x.flying.length<=e2:=by
   obtain ⟨_,_,e,h,_⟩:=zAi Kq.row;cases e
   exact h
  have Gj:(0:Int)<=(k:Int)+1/\(0:Int)<=(k:Int)/\(k:Int)<=(e2:Int)/\(k:Int)+1<=(x.flying.length:Int)/\(x.flying.length:Int)<=(e2:Int):=by omega
  have Gk:IntKind.i64.wrap ((k:Int)+1)=(k:Int)+1:=IntWalk.i64_in _ (by omega);have Ht:=mA Kq;have Vg:base<=W2.heap.size:=mD Ha.out.le Ha.out.fr.size;have HE:=mA (show (if a.kind=7 then (({ x with flying:=x.flying.eraseIdx k } : Scu.Net),(0:Int)) else if (Scu.hear (x.replicas.getD m.tq.toNat Scu.replica0) m).2.2≠0 then ({ x with flying:=x.flying.eraseIdx k },(Scu.hear (x.replicas.getD m.tq.toNat Scu.replica0) m).2.2) else Scu.settle { x with flying:=x.flying.eraseIdx k } m.tq.toNat (Scu.hear (x.replicas.getD m.tq.toNat Scu.replica0) m).1 (Scu.hear (x.replicas.getD m.tq.toNat Scu.replica0) m).2.1 (if a.kind=10 then a.n else -1))=(y,f) by
   have h:=HY.out;rw [if_neg (show ¬ a.kind=8 by rw [Hk.out];decide),if_neg (fun h=>by first | exact Ve.out ⟨Hk.out.symm.trans h.1,h.2⟩ | exact Ve.out ⟨trivial,h.2⟩)] at h;exact h)
  clear Kq;go_wp2_with (first | (go_at_call 12;refine (zAt _ _ _ _).mono ?_;rintro en w9 ⟨rfl,rfl⟩;rw [Ge];dsimp only [Bool.not_true,Bool.not_false,Bool.false_and,Bool.and_false,Bool.and_true]) | fail)
  have Ks:=mA (mB d2 a3);clear a0 a1 a2 a3 a4 a5 a6 a7 a8 al d0 d1 d2 d3 d4 dl
 case' _ =>
  have Hc:=(mG W2.heap.size W2).drew;refine rgF (Below W2.heap.size W2) [] [0,1,2,3,4,5,6] Hc ?_;iterate 7
   (refine tkc (v:=?_) rfl (Or.inl ⟨by rfl,?_⟩) ?_;rotate_left;(intro wv Hd;(obtain ⟨-,-,d2,-⟩:=cz5 (Ha.out.net.box.same Hd);obtain ⟨-,-,-,a3,-⟩:=cz9 (Ha.out.ab.same Hd);rw [Hs.out] at a3);go_simp;with_reducible rfl);(try simp only [Act.put,zp1,zp2,zp3]))
  refine tkz (fun Hf=>?_);refine alF 7 (fun KA Hg=>?_);rw [if_pos (by rfl)];have Kt:=Ht.out.parts Hi Hc e2 x.flying.length (mC _);refine zCi _ _ _ 25 rfl zCr W2.heap.size (.slice none 0 0) 0 [] rfl (World.ownsRow_nil _ _ _ _) (.slice (some ⟨gf,0,none⟩) k e2) k (fss.take k).flatten rfl Kt.1 Kt.2.2.1 (by unfold maxLen;omega) (by omega) (mC _) ?_;intro v5 x5 h5 Vh _;have Hu:Below W2.heap.size W2 x5:=Hc.trans (zAk Vh (mC _) (fun q e=>by cases e));rw [Nat.zero_add,List.nil_append] at h5;obtain ⟨A5,c5,rfl,-⟩:=zAi h5;refine Hg _ _ ⟨.inr Hu,?_⟩;refine puT ?_;refine alF 8 (fun KB Hh=>?_);go_simp;refine Hh _ _ ⟨.inr Hu,zAe (by kernel_rfl) ?_ _⟩;refine puT ?_;change Exit.then _ _ _ _ x5;clear Hg Hh Hf Kt Vh Hc;go_wp2_with fail
  have Kh:=Hu.drew;refine rgF (Below W2.heap.size W2) [13] [0,1,2,3,4,5,6,7,8,9] Kh ?_;iterate 10
   (refine tkc (v:=?_) rfl (Or.inl ⟨by rfl,?_⟩) ?_;rotate_left;(intro wv Hd;(obtain ⟨-,-,d2,-⟩:=cz5 (Ha.out.net.box.same Hd);obtain ⟨-,-,-,a3,-⟩:=cz9 (Ha.out.ab.same Hd);rw [Hs.out] at a3);go_simp;with_reducible rfl);(try simp only [Act.put,zp1,zp2,zp3]))
  refine tkz (fun Hf=>?_);refine alF 10 (fun KC Kj=>?_);rw [if_pos (by rfl)];have Ku:=Ht.out.parts Hi Kh 0 e2 Kr;refine zCi _ _ _ 25 rfl zCr W2.heap.size (.slice A5 k c5) k (fss.take k).flatten rfl (zAg h5 (mG x5.heap.size x5).drew) (.slice (if e2=k+1 then some ⟨gf,0,none⟩ else some ⟨gf,(k+1)*8,none⟩) (x.flying.length - (k+1)) (e2 - (k+1))) (x.flying.length - (k+1)) (fss.drop (k+1)).flatten rfl Ku.2.1 Ku.2.2.2 (by unfold maxLen;omega) (by omega) Hu.size ?_;intro v6 x6 h6 Vi _;have Hj:Below W2.heap.size W2 x6:=Kh.trans (zAk Vi Hu.size (fun q e=>(h5.lt q e).1));obtain ⟨A6,c6,rfl,-⟩:=zAi h6;have Hl:=(Ha.out.net.below Hj).putFly (Ht.out.cut Hi Hj Vg h6);refine Kj _ _ ⟨.inr Hj,?_⟩;refine puT ?_;refine tkFs 16 [11,12] Hj (shF Hf 10) ?_;iterate 2
   (refine tkc (v:=?_) rfl (Or.inl ⟨by rfl,?_⟩) ?_;rotate_left;(intro wv Hd;skip;go_simp;with_reducible rfl);(try simp only [Act.put,zp1,zp2,zp3]))
  refine tkz (fun Hf=>?_);have Ki:=Ha.out.net.box.same Hj;obtain ⟨-,-,d2,-⟩:=cz5 Ki;have dz:=Ki.frozen;have dl:=Ki.lt;refine alF 13 (fun KD Kk=>?_);go_simp;refine Kk _ _ ⟨.inl (by simp),zAe (by kernel_rfl) ?_ _⟩;refine puT ?_;obtain ⟨Wd,He⟩:=mJ (x6.setCell ⟨gx,2,none⟩ (.slice A6 (k+(x.flying.length - (k+1))) c6));change Exit.then _ _ _ _ (x6.setCell ⟨gx,2,none⟩ (.slice A6 (k+(x.flying.length - (k+1))) c6));have Hz:w.heap.size≠gx:=zAw Ha.out.ab Ha.out.net.box (by decide);have Ka:gm≠gx:=zAw Ho.out.1 Ha.out.net.box (by decide);have HS:=mA (show AcS true w Wd base gx { x with flying:=x.flying.eraseIdx k } a _ _ _ _ _ by rw [He];exact ⟨Hl.1,(Ha.out.ab.same Hj).far (p:=⟨gx,2,none⟩) Hz _,Ha.out.fr.trans ((Fr.of Hj Vg).trans Hl.2),Ha.out.le⟩);have Kv:=mA (show Blk Wd gm 99 (mN m Al nl cl)/\IsStrs Wd 0 (.slice Al nl cl) m.log by rw [He];exact ⟨(Ho.out.1.same Hj).far (p:=⟨gx,2,none⟩) Ka _,(Ho.out.2.below Hj).same (Ts:=[9]) (by simp) (Hl.2.2.mono (by simp) (mC _))⟩);rw [<- He]
  (try generalize (if e2=k+1 then (some ⟨gf,0,none⟩:Option Addr) else some ⟨gf,(k+1)*8,none⟩)=Az)
  clear He Hl Ki d2 dz dl Kj Kk Hf Ku Vi Kh h5 h6 Hu Hj Hz Ka
 rotate_left
 case' _ =>
  have Hc:W2.drew.cell? ⟨gx,2,none⟩=_/\W2.drew.cell? ⟨w.heap.size,3,none⟩=_:=Ks.out;refine rgF (fun w'=>w'.cell? ⟨gx,2,none⟩=some (.slice (some ⟨gf,0,none⟩) x.flying.length e2)/\w'.cell? ⟨w.heap.size,3,none⟩=some (.int .i64 (k:Int))) [13] [0,1,2,3,4,5,6,7,8,9] Hc ?_;iterate 10
   (refine tkc (v:=?_) rfl (Or.inl ⟨by rfl,?_⟩) ?_;rotate_left;(intro wv Hd;(obtain ⟨d2,a3⟩:=Hd);go_simp;with_reducible rfl);(try simp only [Act.put,zp1,zp2,zp3]))
  refine tkz (fun Hf=>?_);refine alF 10 (fun KA Hg=>?_);go_simp;have Kb:=Ht.out.same (B:=0) (Ts:=[9,99]) (by simp) (Same.drew _) (fun _ _ h=>h.same (Ts:=[9]) (by simp) (Same.drew _));refine (zJt gf e2 k x.flying fss W2.drew base Kb Hi (by omega)).mono ?_;rintro en w' ⟨rfl,Kw⟩;have Kc:=(Ha.out.net.below ((mG W2.heap.size W2).drew.drew)).delFly (css:=fss) (Ht.out.same (B:=0) (Ts:=[9,99]) (by simp) ((Same.drew _).trans (Same.drew _)) (fun _ _ h=>h.same (Ts:=[9]) (by simp) ((Same.drew _).trans (Same.drew _)))) Hi Kw;have Hm:=mA Kc;have Vj:=mA Kw;clear Kc Kw;obtain ⟨Vw,curf,Kx⟩:=zBm Ht.out.row;have Vk:gx≠gf:=zAw Ha.out.net.box Kx (by decide);have Ky:w.heap.size≠gf:=zAw Ha.out.ab Kx (by decide);have Vl:gm≠gf:=by omega
  have Hz:w.heap.size≠gx:=zAw Ha.out.ab Ha.out.net.box (by decide);have Ka:gm≠gx:=zAw Ho.out.1 Ha.out.net.box (by decide);have Hb:=mB ((Hm.out.2.2.2.1 ⟨gx,2,none⟩ Vk).trans Ks.out.1) ((Hm.out.2.2.2.1 ⟨w.heap.size,3,none⟩ Ky).trans Ks.out.2);refine Hg _ _ ⟨.inr Hb,?_⟩;refine puT ?_;refine tkFs 16 [11,12] Hb (shF Hf 10) ?_;iterate 2
   (refine tkc (v:=?_) rfl (Or.inl ⟨by rfl,?_⟩) ?_;rotate_left;(intro wv Hd;skip;go_simp;with_reducible rfl);(try simp only [Act.put,zp1,zp2,zp3]))
  refine tkz (fun Hf=>?_);have d2:=Hb.1;have dz:=Hm.out.2.2.1.frozen;have dl:=Hm.out.2.2.1.lt;refine alF 13 (fun KB Hh=>?_);go_simp;refine Hh _ _ ⟨.inl (by simp),zAe (by kernel_rfl) ?_ _⟩;refine puT ?_;obtain ⟨Wd,He⟩:=mJ (w'.setCell ⟨gx,2,none⟩ (.slice (some ⟨gf,0,none⟩) (x.flying.length - 1) e2));change Exit.then _ _ _ _ (w'.setCell ⟨gx,2,none⟩ (.slice (some ⟨gf,0,none⟩) (x.flying.length - 1) e2));have Hr:∀ {g:Nat} {t:TypeId} {cs:Array Value},Blk W2 g t cs->g≠gf->g≠gx->Blk Wd g t cs:=fun h h1 h2=>by rw [He];exact (zFe h1 (zDf h1 _ _ _ (h.drew.drew)) Vj.out).far (p:=⟨gx,2,none⟩) h2 _
  have HS:=mA (show AcS false w Wd base gx { x with flying:=x.flying.eraseIdx k } a _ _ _ _ _ from ⟨by rw [He];exact Hm.out.1,Hr Ha.out.ab Ky Hz,by rw [He];exact Ha.out.fr.trans (((Fr.refl base W2).drew.drew).trans Hm.out.2.1),Ha.out.le⟩);have Kv:=mA (show Blk Wd gm 99 (mN m Al nl cl)/\IsStrs Wd 0 (.slice Al nl cl) m.log from ⟨Hr Ho.out.1 Vl Ka,by rw [He];exact Ho.out.2.same (Ts:=[9]) (by simp) ((Same.drew _).trans ((Same.drew _).trans (Hm.out.2.1.2.mono (by simp) (mC _))))⟩);rw [<- He];clear He Hm Vj Hr d2 dz dl Hg Hh Hf Kb Vw Kx Vk Ky Vl Hz Ka Hc Hb
 all_goals
  obtain ⟨r,Kz⟩:=Int.eq_ofNat_of_zero_le (show 0<=m.tq from Vn.out.1);have Gm:r < 3:=by have:=Vn.out;unfold Scu.InR at this;omega
  have Va:r < x.replicas.length:=by have:=HC.out.rlen.1;omega
  obtain ⟨rk,Vr⟩:=mK (x.replicas[r]);have hg:x.replicas.getD m.tq.toNat Scu.replica0=rk:=by rw [Kz,Int.toNat_natCast,mI,mH Va];exact Vr
  obtain ⟨rr,ms,fr,hd⟩:∃ rr ms fr,Scu.hear rk m=(rr,ms,fr):=⟨_,_,_,rfl⟩;have hE:=HE.out;rw [if_neg (show ¬ a.kind=7 by rw [Hk.out];decide),hg,hd,Kz,Int.toNat_natCast] at hE;dsimp only at hE
  first | rw [if_pos (show a.kind=10 from Hk.out)] at hE | rw [if_neg (show ¬ a.kind=10 by rw [Hk.out];decide)] at hE
  obtain ⟨xe,Vb⟩:=mK (({ x with flying:=x.flying.eraseIdx k } : Scu.Net));rw [Vb] at HS hE;have Vx:r < xe.replicas.length:=by rw [<- Vb];exact Va
  have Gn:(r:Int) < (x.replicas.length:Int):=by omega
  have Vs:=mA (show xe.replicas.length=3/\r < xe.slots.length/\xe.flying.length<=80 by
   rw [<- Vb];have h1:=HC.out.rlen;have h2:=HC.out.fly.1;have h3:=List.length_eraseIdx_of_lt Hi;exact ⟨h1.1,show r < x.slots.length by omega,show (x.flying.eraseIdx k).length<=80 by omega⟩)
  have Vc:xe.replicas[r]=rk:=by subst Vb;exact Vr
  obtain ⟨gr,cr,lu0,Go,wv0,gv0,nv0,er,-,gl0,Vf,Hp,-⟩:=HS.out.net.repAt Vx;obtain ⟨rfl,rfl⟩:=slq er;rw [Vc] at Vf Hp;obtain ⟨F0,p0,q0,F1,q1,F2,q2,F3,q3,F4,q4,rfl,rfl,rfl,rfl,rfl⟩:=Vf.forms;have HA:=mA (fun W' (h:Below Wd.heap.size Wd W')=>HS.out.net.hear _ _ _ _ _ rk W' (Vf.below h) rr ms fr _ m (Kv.out.2.below h) Kz hd);have HB:=mA trivial;have Gg:=mA Hp;have HL:=mA (mG Wd.heap.size Wd);have Vy:=mA Kz;have gl:=gl0;have HE:=mA hE;clear hE Kz Vr hg hd Vb Vc er Vf Hp gl0;have a0:=cz1 HS.out.ab;rw [Hk.out] at a0;have al:=HS.out.ab.lt;have dl:=HS.out.net.box.lt;go_wp2_with fail
  clear a0;have Hc:Below Wd.heap.size Wd Wd.drew:=(mG _ _).drew;refine rgF (Below Wd.heap.size Wd) [] [0,1,2,3,4,5,6,7,8] Hc ?_;iterate 9
   (refine tkc (v:=?_) rfl (Or.inl ⟨by rfl,?_⟩) ?_;rotate_left;(intro wv Hd;(obtain ⟨d0,-⟩:=cz3 (HS.out.net.box.same Hd);obtain ⟨t0,t1,t2,t3,t4,t5,t6,t7⟩:=cz8 (Kv.out.1.same Hd);rw [Vy.out] at t2;obtain ⟨p0,p1,p2,p3,p4,p5,p6,p7,p8,p9⟩:=rg10 (rgb Hd gl Gg.out));go_simp;with_reducible rfl);(try simp only [Act.put,zp1,zp2,zp3]))
  refine tkz (fun Hf=>?_);refine al2 9 14 (fun KA Hg=>?_) (fun KA Hg=>?_);case' _ =>
   go_simp;have Vz:=Hc;first
   | refine (HB.out _ (HL.out.trans (Hc.mono HL.out.size))).mono ?_
   | refine (HA.out _ (HL.out.trans (Hc.mono HL.out.size))).mono ?_
   rintro en x1 ⟨⟨E0,m0,z0,E1,z1,E2,z2,E3,z3,E4,z4,Ao,co,rfl,hq⟩,k1⟩;have Hb:=Hc.trans k1;refine Hg _ _ ⟨.inr Hb,?_⟩;refine puT ?_;refine tkFs 16 [10,11,12,13] Hb (shF Hf 9) ?_;iterate 4
    (refine tkc (v:=?_) rfl (Or.inl ⟨by rfl,?_⟩) ?_;rotate_left;(intro wv Hd;skip;go_simp;with_reducible rfl);(try simp only [Act.put,zp1,zp2,zp3]))
   refine tkz (fun Hf=>?_);refine alF 14 (fun KB Hh=>?_);go_simp;have Hn:=Hb.alloc Hb.size (.cells zR 47);refine Hh _ _ ⟨.inr Hn,?_⟩;refine puT ?_;have HZ:=mA (Blk.new x1 47 zR);have Ga:=zAa x1 (.cells zR 47);have Vt:=Hb.size
  rotate_left
  case' _ =>
   go_simp;have Hb:=Hc.alloc (mC _) (.cells zR 47);have Vz:=Hb;refine Hg _ _ ⟨.inr Hb,?_⟩;refine puT ?_;refine alF 9 (fun KB Hh=>?_);go_simp;first
   | refine (HB.out _ (HL.out.trans (Hb.mono HL.out.size))).mono ?_
   | refine (HA.out _ (HL.out.trans (Hb.mono HL.out.size))).mono ?_
   rintro en x1 ⟨⟨E0,m0,z0,E1,z1,E2,z2,E3,z3,E4,z4,Ao,co,rfl,hq⟩,k1⟩;have HZ:=mA ((Blk.new' (w:=Wd.drew) (g:=Wd.heap.size) (t:=47) (cs:=zR) rfl).same k1);have Hn:=Hb.trans (k1.mono Hb.size);refine Hh _ _ ⟨.inr Hn,?_⟩;refine puT ?_;refine tkFs 16 [10,11,12,13] Hn (shF (shF Hf 14) 9) ?_;iterate 4
    (refine tkc (v:=?_) rfl (Or.inl ⟨by rfl,?_⟩) ?_;rotate_left;(intro wv Hd;skip;go_simp;with_reducible rfl);(try simp only [Act.put,zp1,zp2,zp3]))
   refine tkz (fun Hf=>?_);have Ga:=mG x1.heap.size x1;have Vt:=mC Wd.heap.size
  all_goals
   have HP:=mA hq;clear hq;refine alF 15 (fun KC Kj=>?_);rw [if_pos (by rfl)];refine wp_store_mid 47 _ _ rfl _ 0 #[_,_,_,_,_,_,_,_,_,_] rfl rfl (zBu HZ.out) (by kernel_rfl) (by simp [Value.oneCell']) ?_;refine Kj _ _ ⟨.inr (zAr Vt _ 0 _ _ Hn),genF fun W3 Gb=>?_⟩;have HQ:=mA (boxedE Gb HP.out Vz Hn HZ.out Vt Ga);clear Gb;refine puT ?_;refine alF 16 (fun KD Kk=>?_);go_simp;refine Kk _ _ ⟨.inr HQ.out.1,?_⟩;refine puT ?_;refine alF 17 (fun KE Gh=>?_);go_simp;refine Gh _ _ ⟨.inr HQ.out.1,zAe (by kernel_rfl) ?_ _⟩;refine puT ?_;change Exit.then _ _ _ _ W3
  all_goals
   have HI:=mA (HS.out.below HQ.out.1);have Vu:=Kv.out.1.same HQ.out.1;obtain ⟨b0,b1,b2,b3,b4,b5,b6,b7,b8,b9⟩:=cz10 HQ.out.2.1;have bl:=HQ.out.2.1.lt;obtain ⟨a0,-,-,-,a4,-⟩:=cz9 HI.out.ab;rw [Hk.out] at a0;have al:=HI.out.ab.lt;obtain ⟨-,-,t2,-⟩:=cz8 Vu;rw [Vy.out] at t2;have tl:=Vu.lt;clear Vu;by_cases Vd:fr=0
   ·have hE:=HE.out;rw [if_neg (by rw [Vd];simp)] at hE;have Kl:=mA hE;clear hE;subst Vd;go_wp2_with fail
    refine (zHk _ r rr _ _ _ _ _ Ao co ms _ _ base gx xe _ _ _ _ _ HI.out.net (mD hb HI.out.fr.size) Vx Vs.out.2.1 Vs.out.1 HQ.out.2.2.1 HQ.out.2.2.2.1 (zFw HS.out.net HQ.out.2.2.2.2.1) Vs.out.2.2 y f Kl.out).mono ?_;rintro en w9 ⟨rfl,Gc,Gd⟩;have HT:=mA (mB Gc (HI.out.fr.trans Gd));clear Gc Gd;go_wp2
    go_ret
    exact ⟨zAb rfl,HT.out.1,HT.out.2⟩
   ·have Gp:(fr != 0)=true:=by simpa using Vd
    have Kl:=mA (show y=xe/\f=fr by have h:=HE.out;rw [if_pos Vd] at h;exact pr2 h);clear Vd;go_wp2
    go_ret
    exact ⟨zAb (zAd Kl.out.2.symm),by rw [Kl.out.1];exact HI.out.net.e,HI.out.fr⟩):P:=h
theorem zYf (s:Bool) (a:Scu.Act) (w:World) (base gx:Nat) (x:Scu.Net) (rv sv fv cv tv:Value) (hN:NetG s w base gx x rv sv fv cv tv) (hb:base<=w.heap.size) (n:Nat) (hC:Scu.Came n x) (hn:n<=900) (kk:Int) (Gi:kk=6\/kk=7\/kk=10) (hk:a.kind=kk) (hr:¬ (a.k < 0\/(x.flying.length:Int)<=a.k)) (y:Scu.Net) (f:Int) (hy:Scu.actMessage x a=(y,f)):Calls Tryz.prog (fMsg s) #[.pointer (some ⟨gx,0,none⟩),.agg #[.int .i64 a.kind,.int .i64 a.c,.int .i64 a.r,.int .i64 a.k,.int .i64 a.n,.int .i64 a.op.kind,.int .i64 a.op.at_,.int .i64 a.op.snap,.string a.op.data]] w fun e w'=>e=.returned (.int .i64 f)/\NetGE s w' base gx y/\Fr base w w':=by
 obtain ⟨j0,g0⟩:=mK (decide (a.n < 0));obtain ⟨j1,g1⟩:=mK (decide (4000 < a.n));have Ge:=zEs g0 (show decide (4001<=a.n)=j1 by rw [<- g1];exact decide_eq_decide.2 (by omega)) (hi:=4000) rfl;by_cases Vv:kk=10/\(a.n < 0\/4000 < a.n)
 ·obtain ⟨rfl,Vv⟩:=Vv;have Gl:j0=true\/j0=false/\j1=true:=by rw [<- g0,<- g1];simp only [decide_eq_true_eq,decide_eq_false_iff_not];omega
  have Ve:=mA Vv;clear Gi Vv;obtain ⟨i0,h0⟩:=mK (decide (a.k < 0));obtain ⟨i1,h1⟩:=mK (decide ((x.flying.length:Int)<=a.k));have Km:=zEs h0 h1 (hi:=(x.flying.length:Int) - 1) (by omega);have Vm:(x.flying.length:Int)<=80:=by have:=hC.fly.1;omega
  obtain ⟨B0,e0,B1,e1,B2,e2,B3,e3,B4,e4,rfl,rfl,rfl,rfl,rfl⟩:=hN.forms;have Kd:=zAa w (.cells (aN a) 57);have HS:=mA (show AcS s w (w.alloc (.cells (aN a) 57)) base gx x a _ _ _ _ _ from ⟨hN.below Kd,Blk.new w 57 (aN a),Fr.of Kd hb,hb⟩);have HC:=mA hC;obtain ⟨k,Hv⟩:=Int.eq_ofNat_of_zero_le (show 0<=a.k by omega);obtain ⟨rfl,rfl⟩:i0=false/\i1=false:=by rw [<- h0,<- h1];simp only [decide_eq_false_iff_not];omega
  have Hi:k < x.flying.length:=by omega
  have Gf:(k:Int) < (x.flying.length:Int):=by omega
  obtain ⟨m,hm⟩:=mK (x.flying[k]);have Kn:=hC.fly.2 m (hm ▸ List.getElem_mem Hi);have hg:x.flying.getD k Scu.msg0=m:=by rw [mI,mH Hi];exact hm
  unfold Scu.actMessage at hy;rw [if_neg hr,Hv,Int.toNat_natCast,hg] at hy;dsimp only at hy
  rw [Hv] at h0 h1 Km;have Hs:=mA Hv;have HM:=mA hm;have Vn:=mA Kn;have HY:=mA hy;have Hk:=mA hk;clear Hv hr hy hg hC hm Kn hN Kd hk;cases s
  case' false =>
   change Calls Tryz.prog 25 _ _ _;go_enter Tryz.func25,Tryz.ntmps25
  case' true =>
   change Calls Tryz.prog 15 _ _ _;go_enter Tryz.func15,Tryz.ntmps15
  all_goals
   go_upto_region 1 with fail
   obtain ⟨Wd,He⟩:=mJ (w.alloc (.cells (aN a) 57));rw [<- He] at HS ⊢;clear He;obtain ⟨a0,a1,a2,a3,a4,a5,a6,a7,a8⟩:=cz9 HS.out.ab;have al:=HS.out.ab.lt;obtain ⟨d0,d1,d2,d3,d4⟩:=cz5 HS.out.net.box;have dl:=HS.out.net.box.lt;rw [Hs.out] at a3;rw [Hk.out] at a0;obtain ⟨gf,cf,lu,ef,-,Ko,Hw,Hp,-⟩:=HS.out.net.flyAt Hi;obtain ⟨rfl,rfl⟩:=slq ef;rw [HM.out] at Hw Hp;obtain ⟨Al,nl,cl,rfl⟩:=Hw.form;have Vo:=mA Hp;have Vp:=mA Hw;clear ef Hw Hp;go_wp2_with fail
   go_quiet ((go_at_call 12;exact zBk ((zAt _ _ _ _).mono fun _ _ h=>⟨by rw [h.1,Km],0,h.2.symm⟩)))
   go_wp2_with fail
   obtain ⟨W1,Hx⟩:=mJ (Wd.drewN nq);have h1:Below Wd.heap.size Wd W1:=by rw [Hx];exact below_drewN (mG _ _) _
   have Hq:=mA (HS.out.below h1);have Ke:=mA (rgb h1 Ko Vo.out);have Kf:=mA (Vp.out.below h1);have gf1:=mF Ko h1.size;have Hc:Below W1.heap.size W1 (Wd.drewN nq).drew:=by rw [Hx];exact (mG _ _).drew
   refine rgF (Below W1.heap.size W1) [] [0,1,2,3,4,5,6,7] Hc ?_;rw [<- Hx];clear Hx h1 a0 a1 a2 a3 a4 a5 a6 a7 a8 al d0 d1 d2 d3 d4 dl;iterate 8
    (refine tkc (v:=?_) rfl (Or.inl ⟨by rfl,?_⟩) ?_;rotate_left;(intro wv Hd;(obtain ⟨-,-,d2⟩:=cz3 (Hq.out.net.box.same Hd);obtain ⟨-,-,-,a3⟩:=cz4 (Hq.out.ab.same Hd);rw [Hs.out] at a3;obtain ⟨t0,t1,t2,t3,t4,t5,t6,t7⟩:=rg8 (rgb Hd gf1 Ke.out));go_simp;with_reducible rfl);(try simp only [Act.put,zp1,zp2,zp3]))
   refine tkz (fun Hf=>?_);refine alF 8 (fun KA Hg=>?_);go_simp;have Hc:=(mG W1.heap.size W1).drew;have Hb:=Hc.alloc (mC _) (.cells #[.int .i64 0,.int .i64 0,.int .i64 0,.int .i64 0,.int .i64 0,.int .i64 0,.int .i64 0,.slice none 0 0] 99);refine Hg _ _ ⟨.inr Hb,?_⟩;refine puT ?_;refine alF 9 (fun KB Hh=>?_);rw [if_pos (by rfl)];have hz:=Blk.new' (w:=W1.drew) (g:=W1.heap.size) (t:=99) (cs:=#[.int .i64 0,.int .i64 0,.int .i64 0,.int .i64 0,.int .i64 0,.int .i64 0,.int .i64 0,.slice none 0 0]) rfl;refine wp_store_mid 99 _ _ rfl W1.heap.size 0 (mN m Al nl cl) rfl rfl (zBu hz) (by kernel_rfl) (by simp [Value.oneCell']) ?_;have Hn:=zAr (mC W1.heap.size) ((mN m Al nl cl)).toList 0 _ _ Hb;refine Hh _ _ ⟨.inr Hn,genF fun W2 Kp=>zAe (by kernel_rfl) ?_ _⟩;have Hy:=mA (zEt Kp Kf.out Hb hz (mC _));clear Kp Hc Hb Hn hz Hg Hh;refine puT ?_;change Exit.then _ _ _ _ W2;have Ha:=mA (Hq.out.below Hy.out.1);obtain ⟨gm,Kg⟩:=mK (W1.heap.size);have Ho:=mA (mB Hy.out.2.1 Hy.out.2.2);rw [Kg] at Ho gf1 ⊢;have Vq:base<=gm:=by rw [<- Kg];exact mD Hq.out.le Hq.out.fr.size
   clear Kg Hy;obtain ⟨a0,a1,a2,a3,a4,a5,a6,a7,a8⟩:=cz9 Ha.out.ab;rw [Hk.out] at a0;have al:=Ha.out.ab.lt;obtain ⟨d0,d1,d2,d3,d4⟩:=cz5 Ha.out.net.box;have dl:=Ha.out.net.box.lt;have HE:=mA (show y=x/\f=2 by have h:=HY.out;rw [if_neg (show ¬ a.kind=8 by rw [Hk.out];decide),if_pos ⟨Hk.out,Ve.out⟩] at h;exact pr2 h);clear Ve;rcases Gl with rfl | ⟨rfl,rfl⟩;all_goals
    go_wp2_with (first | (go_at_call 12;refine (zAt _ _ _ _).mono ?_;rintro en w9 ⟨rfl,rfl⟩;rw [Ge];dsimp only [Bool.not_true,Bool.not_false,Bool.false_and,Bool.and_false,Bool.and_true]) | fail)
    go_ret
    exact ⟨zAb (zAd HE.out.2.symm),by rw [HE.out.1];exact Ha.out.net.e,Ha.out.fr⟩
 have Ve:=mA Vv;have hj:kk=10->j0=false/\j1=false:=by rintro rfl;rw [<- g0,<- g1];simp only [decide_eq_false_iff_not];omega
 clear Vv;rcases Gi with rfl | rfl | rfl
 ·exact zA6
 ·clear hj;obtain ⟨i0,h0⟩:=mK (decide (a.k < 0));obtain ⟨i1,h1⟩:=mK (decide ((x.flying.length:Int)<=a.k));have Km:=zEs h0 h1 (hi:=(x.flying.length:Int) - 1) (by omega);have Vm:(x.flying.length:Int)<=80:=by have:=hC.fly.1;omega
  obtain ⟨B0,e0,B1,e1,B2,e2,B3,e3,B4,e4,rfl,rfl,rfl,rfl,rfl⟩:=hN.forms;have Kd:=zAa w (.cells (aN a) 57);have HS:=mA (show AcS s w (w.alloc (.cells (aN a) 57)) base gx x a _ _ _ _ _ from ⟨hN.below Kd,Blk.new w 57 (aN a),Fr.of Kd hb,hb⟩);have HC:=mA hC;obtain ⟨k,Hv⟩:=Int.eq_ofNat_of_zero_le (show 0<=a.k by omega);obtain ⟨rfl,rfl⟩:i0=false/\i1=false:=by rw [<- h0,<- h1];simp only [decide_eq_false_iff_not];omega
  have Hi:k < x.flying.length:=by omega
  have Gf:(k:Int) < (x.flying.length:Int):=by omega
  obtain ⟨m,hm⟩:=mK (x.flying[k]);have Kn:=hC.fly.2 m (hm ▸ List.getElem_mem Hi);have hg:x.flying.getD k Scu.msg0=m:=by rw [mI,mH Hi];exact hm
  unfold Scu.actMessage at hy;rw [if_neg hr,Hv,Int.toNat_natCast,hg] at hy;dsimp only at hy
  rw [Hv] at h0 h1 Km;have Hs:=mA Hv;have HM:=mA hm;have Vn:=mA Kn;have HY:=mA hy;have Hk:=mA hk;clear Hv hr hy hg hC hm Kn hN Kd hk;cases s
  case' false =>
   change Calls Tryz.prog 25 _ _ _;go_enter Tryz.func25,Tryz.ntmps25
  case' true =>
   change Calls Tryz.prog 15 _ _ _;go_enter Tryz.func15,Tryz.ntmps15
  all_goals
   go_upto_region 1 with fail
   obtain ⟨Wd,He⟩:=mJ (w.alloc (.cells (aN a) 57));rw [<- He] at HS ⊢;clear He;obtain ⟨a0,a1,a2,a3,a4,a5,a6,a7,a8⟩:=cz9 HS.out.ab;have al:=HS.out.ab.lt;obtain ⟨d0,d1,d2,d3,d4⟩:=cz5 HS.out.net.box;have dl:=HS.out.net.box.lt;rw [Hs.out] at a3;rw [Hk.out] at a0;obtain ⟨gf,cf,lu,ef,-,Ko,Hw,Hp,-⟩:=HS.out.net.flyAt Hi;obtain ⟨rfl,rfl⟩:=slq ef;rw [HM.out] at Hw Hp;obtain ⟨Al,nl,cl,rfl⟩:=Hw.form;have Vo:=mA Hp;have Vp:=mA Hw;clear ef Hw Hp;go_wp2_with fail
   go_quiet ((go_at_call 12;exact zBk ((zAt _ _ _ _).mono fun _ _ h=>⟨by rw [h.1,Km],0,h.2.symm⟩)))
   go_wp2_with fail
   obtain ⟨W1,Hx⟩:=mJ (Wd.drewN nq);have h1:Below Wd.heap.size Wd W1:=by rw [Hx];exact below_drewN (mG _ _) _
   have Hq:=mA (HS.out.below h1);have Ke:=mA (rgb h1 Ko Vo.out);have Kf:=mA (Vp.out.below h1);have gf1:=mF Ko h1.size;have Hc:Below W1.heap.size W1 (Wd.drewN nq).drew:=by rw [Hx];exact (mG _ _).drew
   refine rgF (Below W1.heap.size W1) [] [0,1,2,3,4,5,6,7] Hc ?_;rw [<- Hx];clear Hx h1 a0 a1 a2 a3 a4 a5 a6 a7 a8 al d0 d1 d2 d3 d4 dl;iterate 8
    (refine tkc (v:=?_) rfl (Or.inl ⟨by rfl,?_⟩) ?_;rotate_left;(intro wv Hd;(obtain ⟨-,-,d2⟩:=cz3 (Hq.out.net.box.same Hd);obtain ⟨-,-,-,a3⟩:=cz4 (Hq.out.ab.same Hd);rw [Hs.out] at a3;obtain ⟨t0,t1,t2,t3,t4,t5,t6,t7⟩:=rg8 (rgb Hd gf1 Ke.out));go_simp;with_reducible rfl);(try simp only [Act.put,zp1,zp2,zp3]))
   refine tkz (fun Hf=>?_);refine alF 8 (fun KA Hg=>?_);go_simp;have Hc:=(mG W1.heap.size W1).drew;have Hb:=Hc.alloc (mC _) (.cells #[.int .i64 0,.int .i64 0,.int .i64 0,.int .i64 0,.int .i64 0,.int .i64 0,.int .i64 0,.slice none 0 0] 99);refine Hg _ _ ⟨.inr Hb,?_⟩;refine puT ?_;refine alF 9 (fun KB Hh=>?_);rw [if_pos (by rfl)];have hz:=Blk.new' (w:=W1.drew) (g:=W1.heap.size) (t:=99) (cs:=#[.int .i64 0,.int .i64 0,.int .i64 0,.int .i64 0,.int .i64 0,.int .i64 0,.int .i64 0,.slice none 0 0]) rfl;refine wp_store_mid 99 _ _ rfl W1.heap.size 0 (mN m Al nl cl) rfl rfl (zBu hz) (by kernel_rfl) (by simp [Value.oneCell']) ?_;have Hn:=zAr (mC W1.heap.size) ((mN m Al nl cl)).toList 0 _ _ Hb;refine Hh _ _ ⟨.inr Hn,genF fun W2 Kp=>zAe (by kernel_rfl) ?_ _⟩;have Hy:=mA (zEt Kp Kf.out Hb hz (mC _));clear Kp Hc Hb Hn hz Hg Hh;refine puT ?_;change Exit.then _ _ _ _ W2;have Ha:=mA (Hq.out.below Hy.out.1);obtain ⟨gm,Kg⟩:=mK (W1.heap.size);have Ho:=mA (mB Hy.out.2.1 Hy.out.2.2);rw [Kg] at Ho gf1 ⊢;have Vq:base<=gm:=by rw [<- Kg];exact mD Hq.out.le Hq.out.fr.size
   clear Kg Hy;obtain ⟨a0,a1,a2,a3,a4,a5,a6,a7,a8⟩:=cz9 Ha.out.ab;rw [Hk.out] at a0;have al:=Ha.out.ab.lt;obtain ⟨d0,d1,d2,d3,d4⟩:=cz5 Ha.out.net.box;have dl:=Ha.out.net.box.lt;rw [Hs.out] at a3;obtain ⟨fss,Kq⟩:=Ha.out.net.fly;have Kr:x.flying.length<=e2:=by
    obtain ⟨_,_,e,h,_⟩:=zAi Kq.row;cases e
    exact h
   have Gj:(0:Int)<=(k:Int)+1/\(0:Int)<=(k:Int)/\(k:Int)<=(e2:Int)/\(k:Int)+1<=(x.flying.length:Int)/\(x.flying.length:Int)<=(e2:Int):=by omega
   have Gk:IntKind.i64.wrap ((k:Int)+1)=(k:Int)+1:=IntWalk.i64_in _ (by omega);have Ht:=mA Kq;have Vg:base<=W2.heap.size:=mD Ha.out.le Ha.out.fr.size;have HE:=mA (show (if a.kind=7 then (({ x with flying:=x.flying.eraseIdx k } : Scu.Net),(0:Int)) else if (Scu.hear (x.replicas.getD m.tq.toNat Scu.replica0) m).2.2≠0 then ({ x with flying:=x.flying.eraseIdx k },(Scu.hear (x.replicas.getD m.tq.toNat Scu.replica0) m).2.2) else Scu.settle { x with flying:=x.flying.eraseIdx k } m.tq.toNat (Scu.hear (x.replicas.getD m.tq.toNat Scu.replica0) m).1 (Scu.hear (x.replicas.getD m.tq.toNat Scu.replica0) m).2.1 (if a.kind=10 then a.n else -1))=(y,f) by
    have h:=HY.out;rw [if_neg (show ¬ a.kind=8 by rw [Hk.out];decide),if_neg (fun h=>by first | exact Ve.out ⟨Hk.out.symm.trans h.1,h.2⟩ | exact Ve.out ⟨trivial,h.2⟩)] at h;exact h)
   clear Kq;go_wp2_with (first | (go_at_call 12;refine (zAt _ _ _ _).mono ?_;rintro en w9 ⟨rfl,rfl⟩;rw [Ge];dsimp only [Bool.not_true,Bool.not_false,Bool.false_and,Bool.and_false,Bool.and_true]) | fail)
   have Ks:=mA (mB d2 a3);clear a0 a1 a2 a3 a4 a5 a6 a7 a8 al d0 d1 d2 d3 d4 dl
  case' _ =>
   have Hc:=(mG W2.heap.size W2).drew;refine rgF (Below W2.heap.size W2) [] [0,1,2,3,4,5,6] Hc ?_;iterate 7
    (refine tkc (v:=?_) rfl (Or.inl ⟨by rfl,?_⟩) ?_;rotate_left;(intro wv Hd;(obtain ⟨-,-,d2,-⟩:=cz5 (Ha.out.net.box.same Hd);obtain ⟨-,-,-,a3,-⟩:=cz9 (Ha.out.ab.same Hd);rw [Hs.out] at a3);go_simp;with_reducible rfl);(try simp only [Act.put,zp1,zp2,zp3]))
   refine tkz (fun Hf=>?_);refine alF 7 (fun KA Hg=>?_);rw [if_pos (by rfl)];have Kt:=Ht.out.parts Hi Hc e2 x.flying.length (mC _);refine zCi _ _ _ 25 rfl zCr W2.heap.size (.slice none 0 0) 0 [] rfl (World.ownsRow_nil _ _ _ _) (.slice (some ⟨gf,0,none⟩) k e2) k (fss.take k).flatten rfl Kt.1 Kt.2.2.1 (by unfold maxLen;omega) (by omega) (mC _) ?_;intro v5 x5 h5 Vh _;have Hu:Below W2.heap.size W2 x5:=Hc.trans (zAk Vh (mC _) (fun q e=>by cases e));rw [Nat.zero_add,List.nil_append] at h5;obtain ⟨A5,c5,rfl,-⟩:=zAi h5;refine Hg _ _ ⟨.inr Hu,?_⟩;refine puT ?_;refine alF 8 (fun KB Hh=>?_);go_simp;refine Hh _ _ ⟨.inr Hu,zAe (by kernel_rfl) ?_ _⟩;refine puT ?_;change Exit.then _ _ _ _ x5;clear Hg Hh Hf Kt Vh Hc;go_wp2_with fail
   have Kh:=Hu.drew;refine rgF (Below W2.heap.size W2) [13] [0,1,2,3,4,5,6,7,8,9] Kh ?_;iterate 10
    (refine tkc (v:=?_) rfl (Or.inl ⟨by rfl,?_⟩) ?_;rotate_left;(intro wv Hd;(obtain ⟨-,-,d2,-⟩:=cz5 (Ha.out.net.box.same Hd);obtain ⟨-,-,-,a3,-⟩:=cz9 (Ha.out.ab.same Hd);rw [Hs.out] at a3);go_simp;with_reducible rfl);(try simp only [Act.put,zp1,zp2,zp3]))
   refine tkz (fun Hf=>?_);refine alF 10 (fun KC Kj=>?_);rw [if_pos (by rfl)];have Ku:=Ht.out.parts Hi Kh 0 e2 Kr;refine zCi _ _ _ 25 rfl zCr W2.heap.size (.slice A5 k c5) k (fss.take k).flatten rfl (zAg h5 (mG x5.heap.size x5).drew) (.slice (if e2=k+1 then some ⟨gf,0,none⟩ else some ⟨gf,(k+1)*8,none⟩) (x.flying.length - (k+1)) (e2 - (k+1))) (x.flying.length - (k+1)) (fss.drop (k+1)).flatten rfl Ku.2.1 Ku.2.2.2 (by unfold maxLen;omega) (by omega) Hu.size ?_;intro v6 x6 h6 Vi _;have Hj:Below W2.heap.size W2 x6:=Kh.trans (zAk Vi Hu.size (fun q e=>(h5.lt q e).1));obtain ⟨A6,c6,rfl,-⟩:=zAi h6;have Hl:=(Ha.out.net.below Hj).putFly (Ht.out.cut Hi Hj Vg h6);refine Kj _ _ ⟨.inr Hj,?_⟩;refine puT ?_;refine tkFs 16 [11,12] Hj (shF Hf 10) ?_;iterate 2
    (refine tkc (v:=?_) rfl (Or.inl ⟨by rfl,?_⟩) ?_;rotate_left;(intro wv Hd;skip;go_simp;with_reducible rfl);(try simp only [Act.put,zp1,zp2,zp3]))
   refine tkz (fun Hf=>?_);have Ki:=Ha.out.net.box.same Hj;obtain ⟨-,-,d2,-⟩:=cz5 Ki;have dz:=Ki.frozen;have dl:=Ki.lt;refine alF 13 (fun KD Kk=>?_);go_simp;refine Kk _ _ ⟨.inl (by simp),zAe (by kernel_rfl) ?_ _⟩;refine puT ?_;obtain ⟨Wd,He⟩:=mJ (x6.setCell ⟨gx,2,none⟩ (.slice A6 (k+(x.flying.length - (k+1))) c6));change Exit.then _ _ _ _ (x6.setCell ⟨gx,2,none⟩ (.slice A6 (k+(x.flying.length - (k+1))) c6));have Hz:w.heap.size≠gx:=zAw Ha.out.ab Ha.out.net.box (by decide);have Ka:gm≠gx:=zAw Ho.out.1 Ha.out.net.box (by decide);have HS:=mA (show AcS true w Wd base gx { x with flying:=x.flying.eraseIdx k } a _ _ _ _ _ by rw [He];exact ⟨Hl.1,(Ha.out.ab.same Hj).far (p:=⟨gx,2,none⟩) Hz _,Ha.out.fr.trans ((Fr.of Hj Vg).trans Hl.2),Ha.out.le⟩);have Kv:=mA (show Blk Wd gm 99 (mN m Al nl cl)/\IsStrs Wd 0 (.slice Al nl cl) m.log by rw [He];exact ⟨(Ho.out.1.same Hj).far (p:=⟨gx,2,none⟩) Ka _,(Ho.out.2.below Hj).same (Ts:=[9]) (by simp) (Hl.2.2.mono (by simp) (mC _))⟩);rw [<- He]
   (try generalize (if e2=k+1 then (some ⟨gf,0,none⟩:Option Addr) else some ⟨gf,(k+1)*8,none⟩)=Az)
   clear He Hl Ki d2 dz dl Kj Kk Hf Ku Vi Kh h5 h6 Hu Hj Hz Ka
  rotate_left
  case' _ =>
   have Hc:W2.drew.cell? ⟨gx,2,none⟩=_/\W2.drew.cell? ⟨w.heap.size,3,none⟩=_:=Ks.out;refine rgF (fun w'=>w'.cell? ⟨gx,2,none⟩=some (.slice (some ⟨gf,0,none⟩) x.flying.length e2)/\w'.cell? ⟨w.heap.size,3,none⟩=some (.int .i64 (k:Int))) [13] [0,1,2,3,4,5,6,7,8,9] Hc ?_;iterate 10
    (refine tkc (v:=?_) rfl (Or.inl ⟨by rfl,?_⟩) ?_;rotate_left;(intro wv Hd;(obtain ⟨d2,a3⟩:=Hd);go_simp;with_reducible rfl);(try simp only [Act.put,zp1,zp2,zp3]))
   refine tkz (fun Hf=>?_);refine alF 10 (fun KA Hg=>?_);go_simp;have Kb:=Ht.out.same (B:=0) (Ts:=[9,99]) (by simp) (Same.drew _) (fun _ _ h=>h.same (Ts:=[9]) (by simp) (Same.drew _));refine (zJt gf e2 k x.flying fss W2.drew base Kb Hi (by omega)).mono ?_;rintro en w' ⟨rfl,Kw⟩;have Kc:=(Ha.out.net.below ((mG W2.heap.size W2).drew.drew)).delFly (css:=fss) (Ht.out.same (B:=0) (Ts:=[9,99]) (by simp) ((Same.drew _).trans (Same.drew _)) (fun _ _ h=>h.same (Ts:=[9]) (by simp) ((Same.drew _).trans (Same.drew _)))) Hi Kw;have Hm:=mA Kc;have Vj:=mA Kw;clear Kc Kw;obtain ⟨Vw,curf,Kx⟩:=zBm Ht.out.row;have Vk:gx≠gf:=zAw Ha.out.net.box Kx (by decide);have Ky:w.heap.size≠gf:=zAw Ha.out.ab Kx (by decide);have Vl:gm≠gf:=by omega
   have Hz:w.heap.size≠gx:=zAw Ha.out.ab Ha.out.net.box (by decide);have Ka:gm≠gx:=zAw Ho.out.1 Ha.out.net.box (by decide);have Hb:=mB ((Hm.out.2.2.2.1 ⟨gx,2,none⟩ Vk).trans Ks.out.1) ((Hm.out.2.2.2.1 ⟨w.heap.size,3,none⟩ Ky).trans Ks.out.2);refine Hg _ _ ⟨.inr Hb,?_⟩;refine puT ?_;refine tkFs 16 [11,12] Hb (shF Hf 10) ?_;iterate 2
    (refine tkc (v:=?_) rfl (Or.inl ⟨by rfl,?_⟩) ?_;rotate_left;(intro wv Hd;skip;go_simp;with_reducible rfl);(try simp only [Act.put,zp1,zp2,zp3]))
   refine tkz (fun Hf=>?_);have d2:=Hb.1;have dz:=Hm.out.2.2.1.frozen;have dl:=Hm.out.2.2.1.lt;refine alF 13 (fun KB Hh=>?_);go_simp;refine Hh _ _ ⟨.inl (by simp),zAe (by kernel_rfl) ?_ _⟩;refine puT ?_;obtain ⟨Wd,He⟩:=mJ (w'.setCell ⟨gx,2,none⟩ (.slice (some ⟨gf,0,none⟩) (x.flying.length - 1) e2));change Exit.then _ _ _ _ (w'.setCell ⟨gx,2,none⟩ (.slice (some ⟨gf,0,none⟩) (x.flying.length - 1) e2));have Hr:∀ {g:Nat} {t:TypeId} {cs:Array Value},Blk W2 g t cs->g≠gf->g≠gx->Blk Wd g t cs:=fun h h1 h2=>by rw [He];exact (zFe h1 (zDf h1 _ _ _ (h.drew.drew)) Vj.out).far (p:=⟨gx,2,none⟩) h2 _
   have HS:=mA (show AcS false w Wd base gx { x with flying:=x.flying.eraseIdx k } a _ _ _ _ _ from ⟨by rw [He];exact Hm.out.1,Hr Ha.out.ab Ky Hz,by rw [He];exact Ha.out.fr.trans (((Fr.refl base W2).drew.drew).trans Hm.out.2.1),Ha.out.le⟩);have Kv:=mA (show Blk Wd gm 99 (mN m Al nl cl)/\IsStrs Wd 0 (.slice Al nl cl) m.log from ⟨Hr Ho.out.1 Vl Ka,by rw [He];exact Ho.out.2.same (Ts:=[9]) (by simp) ((Same.drew _).trans ((Same.drew _).trans (Hm.out.2.1.2.mono (by simp) (mC _))))⟩);rw [<- He];clear He Hm Vj Hr d2 dz dl Hg Hh Hf Kb Vw Kx Vk Ky Vl Hz Ka Hc Hb
  all_goals
   have Kl:=mA (show y = { x with flying:=x.flying.eraseIdx k }/\f=0 by have h:=HE.out;rw [if_pos Hk.out] at h;exact pr2 h);have a0:=cz1 HS.out.ab;rw [Hk.out] at a0;have al:=HS.out.ab.lt;go_wp2
   all_goals
    go_ret
    exact ⟨zAb (zAd Kl.out.2.symm),by rw [Kl.out.1];exact HS.out.net.e,HS.out.fr⟩
 obtain ⟨rfl,rfl⟩:=hj rfl;exact zA6
end Go.Proofs.YtlngfbngnnepiaaGreat
