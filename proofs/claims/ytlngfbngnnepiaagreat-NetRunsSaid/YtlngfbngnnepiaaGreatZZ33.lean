/- Part 33: words and walks under the laws of the whole. -/
import Derived.Test.YtlngfbngnnepiaaGreatZZ19
import Derived.Test.YtlngfbngnnepiaaGreatZZ31
set_option linter.unusedVariables false
set_option linter.unusedSimpArgs false
set_option maxHeartbeats 4000000
set_option maxRecDepth 100000
namespace Go.Proofs.YtlngfbngnnepiaaGreat
open Go.RowKit
theorem zU4 {P:Prop} (h:P:=by
 go_wp2
 go_ret
 obtain ⟨Hf,Hm⟩:=Prod.mk.inj HH.out;rw [<- Hf,<- Hm];first | exact ⟨⟨_,rfl,_,OwnMs.nil_⟩,HN.out.rw_.e,HN.out.low⟩ | exact ⟨⟨_,_,rfl,OwnMs.nil_⟩,HN.out.rw_.e,HN.out.low⟩):P:=h
theorem zW4 {P:Prop} (h:P:=by
 refine tkz ?_;refine wpAnyH_done (by kernel_rfl) ?_ _;change Exit.then _ _ _ _ W2.drew;clear Hc Hb;go_wp2_with fail
 go_meet
 exact ⟨by rw [HE.out],rfl⟩):P:=h
theorem zY4 {P:Prop} (h:P:=by
 have Ka:=mA he;clear he;go_wp2_with fail
 go_meet
 exact ⟨by rw [Ka.out],rfl⟩):P:=h
theorem zXo (g base:Nat) (r:Scu.Replica) (lu hv wv gv nv:Value) (m:Scu.Message) (A:Option Addr) (c:Nat) (w:World) (hR:RWk w base g r lu hv wv gv nv) (h3:Rep3 r) (Kd:0<=r.kept.view) (hl:LowStrs w base (.slice A m.log.length c) m.log) (hk:m.kind=2) (Ke:0<=m.from_) (Kf:m.from_ < 3)
 (rr:Scu.Replica) (ms:List Scu.Message) (hh:Scu.hearHas r m=(rr,ms)) :
 Calls Tryz.prog 72 #[.pointer (some ⟨g,0,none⟩),.agg #[.int .i64 m.kind,.int .i64 m.from_,.int .i64 m.tq,.int .i64 m.view,.int .i64 m.normal,.int .i64 m.commit,.int .i64 m.n,.slice A m.log.length c]] w fun e w'=>(∃ ov css,e=.returned ov/\OwnMs w' base ov ms css)/\RWkE w' base g rr/\Below base w w':=by
 have Ky:(m.kind == 1)=false:=by simp [hk]
 have Kz:(m.kind == 2)=true:=by simp [hk]
 have Va:(m.kind == 3)=false:=by simp [hk]
 have Vb:(m.kind == 4)=false:=by simp [hk]
 obtain ⟨fn,Kg⟩:∃ fn:Nat,m.from_=fn:=⟨m.from_.toNat,by omega⟩;have Hk:fn < 3:=by omega
 have Ho:=zAa w (.cells (mN m A m.log.length c) 99);have Hd:HrS w (w.alloc (.cells (mN m A m.log.length c) 99)) base g w.heap.size r lu hv wv gv nv m A c (.slice none 0 0) [] []:=⟨hR.below Ho,Blk.new _ _ _,hl.keep (Ho.mono hR.base_le),OwnMs.nil_,Ho.mono hR.base_le⟩;obtain ⟨E0,z0,a,c1,b,c2,d,c3,e,c4,-,-,rfl,rfl,rfl,rfl,rfl,-⟩:=Hd.forms h3;have H3:=mA h3;have HH:=mA hh;have Kw:=mA Kd;have Hp:=mA Kg;have Ht:=hR.own.own.log.2.1;unfold R47 at Ht;clear hR h3 hl hk hh Kd Ke Kf Kg;go_enter Tryz.func72,Tryz.ntmps72
 go_upto_region 3 with fail
 obtain ⟨W0,Hu⟩:=mJ (w.alloc (.cells (mN m A m.log.length c) 99));obtain ⟨gm,Hv⟩:=mK (w.heap.size);rw [<- Hu,Hv] at Hd;rw [<- Hu,Hv];have HS:=mA Hd;clear Hu Hv Hd Ho;obtain ⟨S,Hb⟩:∃ S:World->Prop,S=fun w'=>Below W0.heap.size W0 w':=⟨_,rfl⟩
 have Hc:S W0.drew:=by rw [Hb];exact (mG _ _).drew
 refine wp_region_held (S:=S) (by kernel_rfl) ?_;change wpAnyH _ _ _ _ _ _ _ _ W0.drew;refine tkHs [0,1,2,3,4,5,6,7,8,9,10,11,12,13,14,15,16] (by kernel_rfl) (fun _ _ _ _ _ h=>h) Hc ?_;iterate 17
  first
  | (refine tkc (v:=?_) rfl (Or.inl ⟨by rfl,?_⟩) ?_;rotate_left;(intro wv Ha;rw [Hb] at Ha;obtain ⟨q0,q1,q2,q3,q4,q5,q6,q7,q8,q9⟩:=cz10 (HS.out.rw_.rb.same Ha);obtain ⟨p0,p1,p2,p3,p4,p5,p6,p7⟩:=cz8 (HS.out.mb.same Ha);skip;go_simp;with_reducible rfl);(try simp only [Act.put,zp1,zp2,zp3]))
  | (refine tkc (v:=undef) rfl (Or.inr ⟨by rfl,rfl⟩) ?_;(try simp only [Act.put,zp1,zp2,zp3]))
 refine tkz ?_;refine wpAnyH_done (by kernel_rfl) ?_ _;change Exit.then _ _ _ _ W0.drew;obtain ⟨W1,Hh⟩:=mJ (W0.drew);have Hl:Below W0.heap.size W0 W1:=by rw [Hh];exact (mG _ _).drew
 rw [<- Hh];have Hi:=HS.out.below Hl;clear Hh Hc Hb;have HS:=mA Hi;obtain ⟨p0,-⟩:=cz2 Hi.mb;clear Hi Hl;go_upto_region 30 with fail
 clear p0;by_cases hA:m.view=r.kept.view
 ·have Kx:(m.view != r.kept.view)=false:=by simp [hA]
  have HA:=mA hA;clear hA;obtain ⟨bl,Kh⟩:=mK (Scu.leads r);have Hw:=mA Kh;clear Kh;obtain ⟨S,Hb⟩:∃ S:World->Prop,S=fun w'=>Below W1.heap.size W1 w':=⟨_,rfl⟩
  have Hc:S W1.drew:=by rw [Hb];exact (mG _ _).drew
  refine wp_region_held (S:=S) (by kernel_rfl) ?_;change wpAnyH _ _ _ _ _ _ _ _ W1.drew;refine tkHs [0,1,2,3,4,5,6,7,8,9,10] (by kernel_rfl) (fun _ _ _ _ _ h=>h) Hc ?_;iterate 11
   first
   | (refine tkc (v:=?_) rfl (Or.inl ⟨by rfl,?_⟩) ?_;rotate_left;(intro wv Ha;rw [Hb] at Ha;obtain ⟨q0,q1,q2,q3,q4,q5,q6,q7,q8,q9⟩:=cz10 (HS.out.rw_.rb.same Ha);obtain ⟨p0,p1,p2,p3,p4,p5,p6,p7⟩:=cz8 (HS.out.mb.same Ha);skip;go_simp;with_reducible rfl);(try simp only [Act.put,zp1,zp2,zp3]))
   | (refine tkc (v:=undef) rfl (Or.inr ⟨by rfl,rfl⟩) ?_;(try simp only [Act.put,zp1,zp2,zp3]))
  refine tkz ?_;refine alH 11 (by kernel_rfl) (wpOp_step (o:=_) rfl fun KA Ki=>?_);go_simp;refine (zEr _ _ _ _ _ r Kw.out _ bl Hw.out).mono ?_;rintro e6 W2 ⟨rfl,h2⟩;have Hx:=(mG W1.heap.size W1).drew.trans h2;have Hc:S W2:=by rw [Hb];exact Hx
  refine Ki _ _ ⟨Hc,?_⟩;refine puT ?_;refine tkHs [12,13] (by kernel_rfl) (fun _ _ _ _ _ h=>h) Hc ?_;iterate 2
   first
   | (refine tkc (v:=?_) rfl (Or.inl ⟨by rfl,?_⟩) ?_;rotate_left;(intro wv Ha;rw [Hb] at Ha;obtain ⟨q0,q1,q2,q3,q4,q5,q6,q7,q8,q9⟩:=cz10 (HS.out.rw_.rb.same Ha);obtain ⟨p0,p1,p2,p3,p4,p5,p6,p7⟩:=cz8 (HS.out.mb.same Ha);skip;go_simp;with_reducible rfl);(try simp only [Act.put,zp1,zp2,zp3]))
   | (refine tkc (v:=undef) rfl (Or.inr ⟨by rfl,rfl⟩) ?_;(try simp only [Act.put,zp1,zp2,zp3]))
  refine tkz ?_;refine wpAnyH_done (by kernel_rfl) ?_ _;change Exit.then _ _ _ _ W2;have HS:=mA (HS.out.below Hx);clear Ki h2 Hx Hc Hb;cases bl with
  | false =>
    have Hg:Scu.hearHas r m=(r,[]):=by unfold Scu.hearHas;rw [if_pos (.inr Hw.out)]
    have HH:=mA (Hg.symm.trans HH.out);have HN:=HS;clear Hg;exact zU4
  | true =>
    obtain ⟨nn,Hy⟩:∃ n,(if (r.kept.log.length:Int) < m.n then (r.kept.log.length:Int) else m.n)=n:=⟨_,rfl⟩;have Kj:nn=min m.n (r.kept.log.length:Int):=by rw [<- Hy];split <;> omega
    have Hz:=mA (mB Hy Kj);clear Hy Kj;obtain ⟨-,-,-,-,q4,-⟩:=cz6 HS.out.rw_.rb;obtain ⟨-,-,-,-,-,-,p6,-⟩:=cz8 HS.out.mb;go_upto_if 225 with fail
    go_cut [9] from 225 to 230 (fun cv wx=>cv=.int .i64 nn/\wx=W2)
    case first =>
     by_cases hlc:(r.kept.log.length:Int) < m.n
     ·have he:=Hz.out.1;rw [if_pos hlc] at he;exact zY4
     have he:=Hz.out.1;rw [if_neg hlc] at he;exact zY4
    case rest =>
    obtain ⟨rfl,Hn⟩:=hcut;rw [Hn];clear Hn q4 p6;go_upto_region 35 with fail
    obtain ⟨Kk,⟨cur,hB⟩,_,Kl,Km⟩:=ones3' HS.out.rw_.own.own.have_ H3.out.1;obtain ⟨hx,Hq⟩:∃ h,r.have_[fn]? = some h:=⟨_,mH (by rw [H3.out.1];exact Hk)⟩;have dh:W2.cell? ⟨a,fn,none⟩=some (.int .i64 hx):=by rw [Km _ Hk,List.getElem?_map,Hq];rfl
    have dal:=World.block_lt_of_cell? W2 _ dh;have Kn:r.have_.getD fn 0=hx:=by rw [mI,Hq];rfl
    have Ko:=mA (mB Hq Kn);have HB:=mA (mB hB Kk);clear Km Hq Kn hB Kk;have Ke:(0:Int)<=(fn:Int):=by omega
    have Kf:(fn:Int) < 3:=by omega
    have Hg:Scu.hearHas r m=(if r.kept.commit < nn then ({ { r with have_:=r.have_.set fn (max hx nn) } with kept:={ r.kept with commit:=nn } },Scu.leadOn { { r with have_:=r.have_.set fn (max hx nn) } with kept:={ r.kept with commit:=nn } }) else ({ r with have_:=r.have_.set fn (max hx nn) },[])):=by
     have hn:¬ (m.view≠r.kept.view\/Scu.leads r=false):=by rw [Hw.out,HA.out];simp
     unfold Scu.hearHas;rw [if_neg hn,Hp.out];simp only [Int.toNat_natCast]
     rw [Ko.out.2,<- Hz.out.2]
    have HH:=mA (Hg.symm.trans HH.out);clear Hg;obtain ⟨bq,Kp⟩:∃ b:Bool,decide (hx < nn)=b:=⟨_,rfl⟩;have Hr:=mA Kp;clear Kp;go_cut [240] from 231 to 239 (fun bv wx=>bv=.bool bq/\wx=W2.drew)
    case first =>
     by_cases Hj:hx < nn
     ·have HE:=mA (show true=bq by rw [<- Hr.out];simp [Hj]);obtain ⟨S,Hb⟩:∃ S:World->Prop,S=fun w'=>Below W2.heap.size W2 w':=⟨_,rfl⟩
      have Hc:S W2.drew:=by rw [Hb];exact (mG _ _).drew
      refine wp_region_held (S:=S) (by kernel_rfl) ?_;change wpAnyH _ _ _ _ _ _ _ _ W2.drew;refine tkHs [0,1,2,3,4,5,6,7,8,9] (by kernel_rfl) (fun _ _ _ _ _ h=>h) Hc ?_;iterate 10
       first
       | (refine tkc (v:=?_) rfl (Or.inl ⟨by rfl,?_⟩) ?_;rotate_left;(intro wv Ha;rw [Hb] at Ha;obtain ⟨q0,q1,q2,q3,q4,q5,q6,q7,q8,q9⟩:=cz10 (HS.out.rw_.rb.same Ha);obtain ⟨p0,p1,p2,p3,p4,p5,p6,p7⟩:=cz8 (HS.out.mb.same Ha);(have q10:=cW Ha dal dh;rw [Hp.out] at p1);go_simp;with_reducible rfl);(try simp only [Act.put,zp1,zp2,zp3]))
       | (refine tkc (v:=undef) rfl (Or.inr ⟨by rfl,rfl⟩) ?_;(try simp only [Act.put,zp1,zp2,zp3]))
      exact zW4
     have HE:=mA (show false=bq by rw [<- Hr.out];simp [Hj]);obtain ⟨S,Hb⟩:∃ S:World->Prop,S=fun w'=>Below W2.heap.size W2 w':=⟨_,rfl⟩
     have Hc:S W2.drew:=by rw [Hb];exact (mG _ _).drew
     refine wp_region_held (S:=S) (by kernel_rfl) ?_;change wpAnyH _ _ _ _ _ _ _ _ W2.drew;refine tkHs [0,1,2,3,4,5,6,7,8,9] (by kernel_rfl) (fun _ _ _ _ _ h=>h) Hc ?_;iterate 10
      first
      | (refine tkc (v:=?_) rfl (Or.inl ⟨by rfl,?_⟩) ?_;rotate_left;(intro wv Ha;rw [Hb] at Ha;obtain ⟨q0,q1,q2,q3,q4,q5,q6,q7,q8,q9⟩:=cz10 (HS.out.rw_.rb.same Ha);obtain ⟨p0,p1,p2,p3,p4,p5,p6,p7⟩:=cz8 (HS.out.mb.same Ha);(have q10:=cW Ha dal dh;rw [Hp.out] at p1);go_simp;with_reducible rfl);(try simp only [Act.put,zp1,zp2,zp3]))
      | (refine tkc (v:=undef) rfl (Or.inr ⟨by rfl,rfl⟩) ?_;(try simp only [Act.put,zp1,zp2,zp3]))
     exact zW4
    case rest =>
    obtain ⟨rfl,Hn⟩:=hcut;rw [Hn];clear Hn;have Hs:=(mG W2.heap.size W2).drew;have HS:=mA (HS.out.below Hs);have HB:=mA (mB (HB.out.1.same Hs) HB.out.2);have dh:=cW Hs dal dh;obtain ⟨W3,Kq⟩:=mJ (W2.drew);rw [<- Kq] at HS HB dh ⊢;clear Kq Hs dal Kl;go_upto_if 240 with fail
    go_cut [9] from 240 to 248 (fun cv wx=>cv=.int .i64 nn/\∃ lu hv wv gv nv,HrS w wx base g gm { r with have_:=r.have_.set fn (max hx nn) } lu hv wv gv nv m A c (.slice none 0 0) [] [])
    case first =>
     cases bq with
     | true =>
       have Hj:hx < nn:=of_decide_eq_true Hr.out;have Kb:=mA (show max hx nn=nn by omega);obtain ⟨-,-,-,-,-,-,q6,-⟩:=cz8 HS.out.rw_.rb;obtain ⟨-,p1,-⟩:=cz3 HS.out.mb;rw [Hp.out] at p1;have Kl:=HB.out.1.frozen fn;have dal:=HB.out.1.lt;obtain ⟨Kr,Ks⟩:=HS.out.rw_.put_have HB.out.1 HB.out.2 fn nn;have HN:=mA ((HS.out.upd Kr (Same.set_ HB.out.1 (mE _) (by decide) fn _) Ks).below (mG _ _).drew);clear Kr Ks Hj;go_upto_region 36 with fail
       go_region
       go_wp2_with fail
       go_meet
       rw [Kb.out];exact ⟨rfl,_,_,_,_,_,HN.out⟩
     | false =>
       have Hj:¬ hx < nn:=of_decide_eq_false Hr.out;have Kb:=mA (show ({ r with have_:=r.have_.set fn (max hx nn) } : Scu.Replica)=r by
        rw [show max hx nn=hx by omega,zUn Ko.out.1])
       clear Hj;go_wp2_with fail
       go_meet
       rw [Kb.out];exact ⟨rfl,_,_,_,_,_,HS.out⟩
    case rest =>
    obtain ⟨rfl,lu,hv,wv,gv,nv,Hd⟩:=hcut;obtain ⟨r1,Hf⟩:=mJ (({ r with have_:=r.have_.set fn (max hx nn) } : Scu.Replica));rw [<- Hf] at Hd;have hq:(if r1.kept.commit < nn then ({ r1 with kept:={ r1.kept with commit:=nn } },Scu.leadOn { r1 with kept:={ r1.kept with commit:=nn } }) else (r1,[]))=(rr,ms):=by rw [Hf];exact HH.out
    have Kt:Rep3 r1:=by rw [Hf];exact ⟨by simpa using H3.out.1,H3.out.2⟩
    obtain ⟨E0,z0,a,c1,b,c2,d,c3,e,c4,-,-,rfl,rfl,rfl,rfl,rfl,-⟩:=Hd.forms Kt;obtain ⟨W6,Ku⟩:=mJ (wc);rw [<- Ku] at Hd ⊢;have HS:=mA Hd;have HQ:=mA hq;obtain ⟨-,-,-,-,-,q5,-⟩:=cz7 Hd.rw_.rb;clear Ku Hd hq Kt Hf HH;by_cases hcm:r1.kept.commit < nn
    ·have hq:=HQ.out;rw [if_pos hcm] at hq;have HH:=mA (Prod.mk.inj hq);have qz:=HS.out.rw_.rb.frozen 5;clear hq;go_upto_region 39 with fail
     obtain ⟨W7,Kv⟩:=mJ (W6.setCell ⟨g,5,none⟩ (.int .i64 nn));have Hd:=HS.out.upd (HS.out.rw_.set_commit nn) (Same.set_ HS.out.rw_.rb (mE _) (by decide) 5 _) (HS.out.rw_.rcell 5 (.int .i64 nn)).2;rw [<- Kv] at Hd ⊢;obtain ⟨r0,r1',r2,r3,r4,r5,r6,r7,r8,r9⟩:=cz10 Hd.rw_.rb;have Kc:=mA Hd;clear Kv Hd q5 qz;go_wp2_with fail
     refine (zLj { r1 with kept:={ r1.kept with commit:=nn } } _ _ _ _ _ W7 0 (mE _) Kc.out.rw_.own.is.log).mono ?_;rintro e7 w7 ⟨⟨ov7,css7,rfl,ho⟩,h7⟩;rw [HH.out.2] at ho;obtain ⟨Ao,co7,rfl⟩:=ho.form;have He:=mA (mB (OwnMs.base_ ho Kc.out.rw_.base_le) (Kc.out.below h7));clear ho h7;go_wp2
     go_ret
     rw [<- HH.out.1];first | exact ⟨⟨_,rfl,_,He.out.1⟩,He.out.2.rw_.e,He.out.2.low⟩ | exact ⟨⟨_,_,rfl,He.out.1⟩,He.out.2.rw_.e,He.out.2.low⟩
    ·have hq:=HQ.out;rw [if_neg hcm] at hq;have HH:=mA hq;have HN:=HS;clear hq;exact zU4
 have Kx:(m.view != r.kept.view)=true:=by simp [hA]
 have Hg:Scu.hearHas r m=(r,[]):=by unfold Scu.hearHas;rw [if_pos (.inl hA)]
 have HH:=mA (Hg.symm.trans HH.out);clear Hg hA;obtain ⟨S,Hb⟩:∃ S:World->Prop,S=fun w'=>Below W1.heap.size W1 w':=⟨_,rfl⟩
 have Hc:S W1.drew:=by rw [Hb];exact (mG _ _).drew
 refine wp_region_held (S:=S) (by kernel_rfl) ?_;change wpAnyH _ _ _ _ _ _ _ _ W1.drew;refine tkHs [0,1,2,3,4,5,6,7,8,9,10,11,12,13] (by kernel_rfl) (fun _ _ _ _ _ h=>h) Hc ?_;iterate 14
  first
  | (refine tkc (v:=?_) rfl (Or.inl ⟨by rfl,?_⟩) ?_;rotate_left;(intro wv Ha;rw [Hb] at Ha;obtain ⟨q0,q1,q2,q3,q4,q5,q6,q7,q8,q9⟩:=cz10 (HS.out.rw_.rb.same Ha);obtain ⟨p0,p1,p2,p3,p4,p5,p6,p7⟩:=cz8 (HS.out.mb.same Ha);skip;go_simp;with_reducible rfl);(try simp only [Act.put,zp1,zp2,zp3]))
  | (refine tkc (v:=undef) rfl (Or.inr ⟨by rfl,rfl⟩) ?_;(try simp only [Act.put,zp1,zp2,zp3]))
 refine tkz ?_;refine wpAnyH_done (by kernel_rfl) ?_ _;change Exit.then _ _ _ _ W1.drew;obtain ⟨W2,Hh⟩:=mJ (W1.drew);have Hl:Below W1.heap.size W1 W2:=by rw [Hh];exact (mG _ _).drew
 rw [<- Hh];have Hi:=HS.out.below Hl;clear Hh Hc Hb;have HN:=mA Hi;clear Hi Hl;exact zU4
theorem zKt {r:Scu.Replica} (v:Int) (h:Rep3 r):Rep3 (Scu.wantIf r v).1:=by
 unfold Scu.wantIf;split
 ·unfold Scu.want Scu.fresh;exact ⟨rfl,by simp,rfl,rfl,h.2.2.2.2.1,h.2.2.2.2.2⟩
 exact h
theorem zSh (r:Scu.Replica) (v:Int):(Scu.wantIf r v).1.me=r.me:=by
 unfold Scu.wantIf;split <;> rfl
theorem zSi (me v:Int) (m:Scu.Message):(Scu.toAll me v m).length<=3:=by
 unfold Scu.toAll;rw [List.length_map];exact List.length_filter_le _ _
theorem zMy (r:Scu.Replica):(Scu.begun r).2.length<=3:=by
 unfold Scu.begun;split
 ·simp
 split
 ·simp
 exact zSi _ _ _
theorem zMz {r:Scu.Replica} (v:Int) (h:∀ k ∈ r.gives,0<=k.normal):∀ k ∈ (Scu.wantIf r v).1.gives,0<=k.normal:=by
 unfold Scu.wantIf;split
 ·intro k hk;have:k=Scu.kept0:=by
   unfold Scu.want Scu.fresh at hk;simpa using hk
  rw [this];decide
 exact h
theorem zSj (r:Scu.Replica) (v:Int):(Scu.wantIf r v).1.kept.normal=r.kept.normal:=by
 unfold Scu.wantIf;split <;> rfl
theorem zXp {r:Scu.Replica} {v:Int} (h:0<=r.kept.view):0<=(Scu.wantIf r v).1.kept.view:=by
 unfold Scu.wantIf;split
 ·unfold Scu.want Scu.fresh;show 0<=v
  omega
 exact h
theorem zLm {l:List Scu.Kept} {n:Nat} {k:Scu.Kept} (h:∀ x ∈ l,0<=x.normal) (hk:0<=k.normal):∀ x ∈ l.set n k,0<=x.normal:=by
 intro x hx;rcases List.mem_or_eq_of_mem_set hx with h' | rfl
 ·exact h x h'
 exact hk
theorem RWkE.app {w w':World} {base g:Nat} {r:Scu.Replica} (h:RWkE w base g r) (hs:Same [9,3,4,42,47] 0 w w'):RWkE w' base g r:=by
 obtain ⟨lu,hv,wv,gv,nv,h⟩:=h;exact ⟨_,_,_,_,_,zAc h.rb hs (by simp),h.own.same (hs.mono (by simp) (mC _)),h.lr⟩
theorem zZl {W:World} {m:Scu.Message} {Al:Option Addr} {nl cl:Nat} : Src1 (W.alloc (.cells #[.int .i64 m.kind,.int .i64 m.from_,.int .i64 m.tq,.int .i64 m.view,.int .i64 m.normal,.int .i64 m.commit,.int .i64 m.n,.slice Al nl cl] 99)).drew 8 (.slice (some ⟨W.heap.size,0,none⟩) 1 1) 1 (msgV m (.slice Al nl cl)):=by
 refine ⟨rfl,.inr ⟨_,_,rfl,fun j v hj=>?_⟩⟩;rw [show (⟨W.heap.size,0,none⟩:Addr).add j=⟨W.heap.size,j,none⟩ by unfold Addr.add;split <;> simp_all];refine (((Blk.new W 99 _).drew).cell j).trans ?_;simpa [msgV] using hj
theorem OwnMs.append {W W4:World} {base:Nat} {ov ov2 v4:Value} {ms ms2:List Scu.Message} {css css2:List (List Value)} (h:OwnMs W base ov ms css) (h2:OwnMs W base ov2 ms2 css2) (hm:(ms.length+ms2.length)*80<=R47)
 (h4:W4.ownsRow base 99 8 v4 (ms.length+ms2.length) (css.flatten ++ css2.flatten)) (hg:W.grownBy W4 ov.ownBlock):OwnMs W4 base v4 (ms ++ ms2) (css ++ css2):=by
 have hs:Same [9] 0 W W4:=Same.own h.row hg (mE _) (by decide);refine ⟨by simp [h.len,h2.len],?_,by rw [List.length_append,List.flatten_append];exact h4,?_,by rw [List.length_append];exact hm⟩
 ·intro cs Ha;rcases List.mem_append.1 Ha with hc | hc
  ·exact h.eight cs hc
  exact h2.eight cs hc
 intro j cs m h5 h6;rcases Nat.lt_or_ge j css.length with hj | hj
 ·rw [List.getElem?_append_left hj] at h5;rw [List.getElem?_append_left (by rw [<- h.len];exact hj)] at h6;exact (h.each j cs m h5 h6).same (by simp) hs
 rw [List.getElem?_append_right hj] at h5;rw [List.getElem?_append_right (by rw [<- h.len];exact hj),<- h.len] at h6;exact (h2.each _ cs m h5 h6).same (by simp) hs
theorem zPg {m:Scu.Message} {Al:Option Addr} {nl cl:Nat} : ∀ v ∈ msgV m (.slice Al nl cl),v.oneCell'=true:=by
 intro v hv;simp only [msgV,List.mem_cons,List.not_mem_nil,or_false] at hv
 rcases hv with rfl | rfl | rfl | rfl | rfl | rfl | rfl | rfl <;> rfl
theorem OwnMs.src {W:World} {base:Nat} {A:Option Addr} {c n:Nat} {ms:List Scu.Message} {css:List (List Value)} (h:OwnMs W base (.slice A n c) ms css):n=ms.length/\Src1 W 8 (.slice A n c) ms.length css.flatten/\∀ u ∈ css.flatten,u.oneCell'=true:=by
 obtain ⟨A',c',e,_,hA,hr,_⟩:=zAi h.row;cases e
 have hl:css.flatten.length=ms.length*8:=by
  have:=h.row;exact this.1
 refine ⟨rfl,zAq hr hl (fun e=>(hA e).1),?_⟩;intro u hu;obtain ⟨cs,Ha,hu⟩:=List.mem_flatten.1 hu;obtain ⟨j,hj,rfl⟩:=List.mem_iff_getElem.1 Ha;have Hb:j < ms.length:=by rw [<- h.len];exact hj
 obtain ⟨lx,he,hx⟩:=h.each j css[j] ms[j] (mH hj) (mH Hb);obtain ⟨A3,n3,c3,rfl⟩:=hx.form;rw [he] at hu;exact zPg u hu
theorem zXq {w:World} {base g:Nat} {r:Scu.Replica} {lu hv wv gv nv:Value} (h:RWk w base g r lu hv wv gv nv) {W:World} (hW:Below w.heap.size w W) :
 Calls Tryz.prog 99 #[.agg #[.int .i64 r.me,.int .i64 r.kept.view,.int .i64 r.kept.normal,.bool r.kept.calm,lu,.int .i64 r.kept.commit,hv,wv,gv,nv]] W fun e w' =>
  (∃ Au cu,e=.returned (.agg #[.int .i64 r.kept.view,.int .i64 r.kept.normal,.bool false,.slice Au r.kept.log.length cu,.int .i64 r.kept.commit])/\OwnStrs w' base (.slice Au r.kept.log.length cu) r.kept.log)/\Below W.heap.size W w':=by
 have h':=h.below hW;obtain ⟨E0,m0,y0,E1,y1,E2,y2,E3,y3,E4,y4,rfl,rfl,rfl,rfl,rfl⟩:=h'.own.is.forms;obtain rfl:m0=r.kept.log.length:=by obtain ⟨⟨A',c',e,_⟩,_⟩:=h'.own.own.log.is;cases e;rfl
 refine (zZy E0 y0 E1 y1 E2 y2 E3 y3 E4 y4 r W h'.own.is.log).mono ?_;rintro e w' ⟨⟨Au,cu,rfl,ho⟩,hb⟩;exact ⟨⟨_,_,rfl,OwnStrs.base_ ho h'.base_le⟩,hb⟩
theorem zGq {w:World} {base g d n c:Nat} {r:Scu.Replica} {lu hv wv nv:Value} (h:RWk w base g r lu hv wv (.slice (some ⟨d,0,none⟩) n c) nv) {i:Nat} (hi:i < r.gives.length):w.there d (i*5) 5:=by
 obtain ⟨kss,Ha⟩:=h.own.giv;obtain ⟨hz,lv,y0,y1,y2,y3,y4,_⟩:=Ha.cells hi;intro j hj;refine ⟨?_,hz _⟩;match j,hj with
 | 0,_=>rw [Nat.add_zero,y0];rfl
 | 1,_=>rw [y1];rfl
 | 2,_=>rw [y2];rfl
 | 3,_=>rw [y3];rfl
 | 4,_=>rw [y4];rfl
theorem zJr {w:World} {base g d n c:Nat} {r:Scu.Replica} {lu hv wv nv:Value} (h:RWk w base g r lu hv wv (.slice (some ⟨d,0,none⟩) n c) nv):∃ cur,Blk w d 42 cur:=by
 obtain ⟨kss,Ha⟩:=h.own.giv;exact (zBm Ha.row).2
theorem zV4 {P:Prop} (h:P:=by
 clear He Hc;go_wp2_with fail
 go_meet
 exact ⟨by rw [HE.out],rfl⟩):P:=h
theorem zX4 {P:Prop} (h:P:=by
 first | exact ⟨⟨_,rfl,_,HZ.out.1⟩,HZ.out.2.1,HZ.out.2.2⟩ | exact ⟨⟨_,_,rfl,HZ.out.1⟩,HZ.out.2.1,HZ.out.2.2⟩):P:=h
theorem zZ4 {P:Prop} (h:P:=by
 refine tkz ?_;refine wpAnyH_done (by kernel_rfl) ?_ _;change Exit.then _ _ _ _ W0.drew;exact zV4):P:=h
theorem zA5 {P:Prop} (h:P:=by
 refine tkz ?_;refine wpAnyH_done (by kernel_rfl) ?_ _;change Exit.then _ _ _ _ W2.drew;exact zV4):P:=h
theorem zXr (g base:Nat) (r:Scu.Replica) (lu hv wv gv nv:Value) (m:Scu.Message) (A:Option Addr) (c:Nat) (w:World) (hR:RWk w base g r lu hv wv gv nv) (h3:Rep3 r) (hN:∀ k ∈ r.gives,0<=k.normal) (Vm:0<=r.kept.normal) (Vn:0<=r.kept.view) (hl:LowStrs w base (.slice A m.log.length c) m.log) (hk:m.kind=3) (Na:0<=m.from_) (Nb:m.from_ < 3)
 (rr:Scu.Replica) (ms:List Scu.Message) (hh:Scu.hearWant r m=(rr,ms)) :
 Calls Tryz.prog 72 #[.pointer (some ⟨g,0,none⟩),.agg #[.int .i64 m.kind,.int .i64 m.from_,.int .i64 m.tq,.int .i64 m.view,.int .i64 m.normal,.int .i64 m.commit,.int .i64 m.n,.slice A m.log.length c]] w fun e w'=>(∃ ov css,e=.returned ov/\OwnMs w' base ov ms css)/\RWkE w' base g rr/\Below base w w':=by
 have Nr:(m.kind == 1)=false:=by simp [hk]
 have Ns:(m.kind == 2)=false:=by simp [hk]
 have Nt:(m.kind == 3)=true:=by simp [hk]
 have Nu:(m.kind == 4)=false:=by simp [hk]
 obtain ⟨fn,Vo⟩:∃ fn:Nat,m.from_=fn:=⟨m.from_.toNat,by omega⟩;have Ka:fn < 3:=by omega
 have Hh:=zAa w (.cells (mN m A m.log.length c) 99);have Hb:HrS w (w.alloc (.cells (mN m A m.log.length c) 99)) base g w.heap.size r lu hv wv gv nv m A c (.slice none 0 0) [] []:=⟨hR.below Hh,Blk.new _ _ _,hl.keep (Hh.mono hR.base_le),OwnMs.nil_,Hh.mono hR.base_le⟩;obtain ⟨E0,z0,a,c1,b,c2,d,c3,e,c4,-,-,rfl,rfl,rfl,rfl,rfl,-⟩:=Hb.forms h3;have H3:=mA h3;have HH:=mA hh;have Kw:=mA (mB hN (mB Vm Vn));have Kb:=mA Vo;have Kx:=hl.len;unfold R47 at Kx;clear hR h3 hl hk hh hN Vm Vn Na Nb Vo;go_enter Tryz.func72,Tryz.ntmps72
 go_upto_region 3 with fail
 obtain ⟨W0,Ky⟩:=mJ (w.alloc (.cells (mN m A m.log.length c) 99));obtain ⟨gm,Kz⟩:=mK (w.heap.size);rw [<- Ky,Kz] at Hb;rw [<- Ky,Kz];have HS:=mA Hb;clear Ky Kz Hb Hh;obtain ⟨bq,Vp⟩:∃ b:Bool,decide (r.kept.view < m.view)=b:=⟨_,rfl⟩;have Kr:=mA Vp;clear Vp;go_cut [31] from 15 to 30 (fun bv wx=>bv=.bool bq/\wx=W0.drew)
 case first =>
  by_cases hA:r.kept.view < m.view
  ·have HE:=mA (show true=bq by rw [<- Kr.out];simp [hA]);obtain ⟨S,Hc⟩:∃ S:World->Prop,S=fun w'=>Below W0.heap.size W0 w':=⟨_,rfl⟩
   have He:S W0.drew:=by rw [Hc];exact (mG _ _).drew
   refine wp_region_held (S:=S) (by kernel_rfl) ?_;change wpAnyH _ _ _ _ _ _ _ _ W0.drew;refine tkHs [0,1,2,3,4,5,6,7,8,9,10,11,12,13,14,15,16] (by kernel_rfl) (fun _ _ _ _ _ h=>h) He ?_;iterate 17
    first
    | (refine tkc (v:=?_) rfl (Or.inl ⟨by rfl,?_⟩) ?_;rotate_left;(intro wv Ha;rw [Hc] at Ha;obtain ⟨q0,q1,q2,q3,q4,q5,q6,q7,q8,q9⟩:=cz10 (HS.out.rw_.rb.same Ha);obtain ⟨p0,p1,p2,p3,p4,p5,p6,p7⟩:=cz8 (HS.out.mb.same Ha);skip;go_simp;with_reducible rfl);(try simp only [Act.put,zp1,zp2,zp3]))
    | (refine tkc (v:=undef) rfl (Or.inr ⟨by rfl,rfl⟩) ?_;(try simp only [Act.put,zp1,zp2,zp3]))
   exact zZ4
  have HE:=mA (show false=bq by rw [<- Kr.out];simp [hA]);obtain ⟨S,Hc⟩:∃ S:World->Prop,S=fun w'=>Below W0.heap.size W0 w':=⟨_,rfl⟩
  have He:S W0.drew:=by rw [Hc];exact (mG _ _).drew
  refine wp_region_held (S:=S) (by kernel_rfl) ?_;change wpAnyH _ _ _ _ _ _ _ _ W0.drew;refine tkHs [0,1,2,3,4,5,6,7,8,9,10,11,12,13,14,15,16] (by kernel_rfl) (fun _ _ _ _ _ h=>h) He ?_;iterate 17
   first
   | (refine tkc (v:=?_) rfl (Or.inl ⟨by rfl,?_⟩) ?_;rotate_left;(intro wv Ha;rw [Hc] at Ha;obtain ⟨q0,q1,q2,q3,q4,q5,q6,q7,q8,q9⟩:=cz10 (HS.out.rw_.rb.same Ha);obtain ⟨p0,p1,p2,p3,p4,p5,p6,p7⟩:=cz8 (HS.out.mb.same Ha);skip;go_simp;with_reducible rfl);(try simp only [Act.put,zp1,zp2,zp3]))
   | (refine tkc (v:=undef) rfl (Or.inr ⟨by rfl,rfl⟩) ?_;(try simp only [Act.put,zp1,zp2,zp3]))
  exact zZ4
 case rest =>
 obtain ⟨rfl,Kc⟩:=hcut;rw [Kc];clear Kc;have HS:=mA (HS.out.below (mG _ _).drew);obtain ⟨W1,Vq⟩:=mJ (W0.drew);rw [<- Vq] at HS ⊢;clear Vq;obtain ⟨ar,am,ha⟩:∃ ar am,Scu.wantIf r m.view=(ar,am):=⟨_,_,rfl⟩;have HA:=mA ha;clear ha;go_upto_if 31 with fail
 go_cut [5] from 31 to 35 (fun ov wx=>∃ lu hv wv gv nv css,HrS w wx base g gm ar lu hv wv gv nv m A c ov am css)
 case first =>
  cases bq with
  | true =>
    have Hp:r.kept.view < m.view:=of_decide_eq_true Kr.out;have HW:=mA (show Scu.want r m.view=(ar,am) by rw [<- HA.out];unfold Scu.wantIf;rw [if_pos Hp]);obtain ⟨-,-,-,p3,-⟩:=cz5 HS.out.mb;clear Hp;go_wp2_with fail
    refine (zLl g r _ _ _ _ _ m.view base W1 HS.out.rw_.rb HS.out.rw_.own.own.log HS.out.rw_.lr H3.out.2.2.2.2.1 H3.out.2.2.2.2.2 ar am HW.out).mono ?_;rintro en x1 ⟨⟨Ao,co,css,Nc,wu',gu',nu',rfl,hB,Hf,Vr⟩,h3,Hs⟩;have HN:=mA (show HrS w x1 base g gm ar _ Nc wu' gu' nu' m A c (.slice Ao am.length co) am css from ⟨⟨hB,Hf,HS.out.rw_.lr⟩,zAc HS.out.mb Hs (by simp),HS.out.ml.keep h3,Vr,HS.out.low.trans h3⟩);clear hB Hf Vr h3 Hs;go_wp2_with fail
    go_meet
    exact ⟨_,_,_,_,_,_,HN.out⟩
  | false =>
    have Hp:¬ r.kept.view < m.view:=of_decide_eq_false Kr.out;have hw:Scu.wantIf r m.view=(r,[]):=by unfold Scu.wantIf;rw [if_neg Hp]
    have HW:=mA (Prod.mk.inj (hw.symm.trans HA.out));clear Hp hw;go_wp2_with fail
    go_meet
    rw [<- HW.out.1,<- HW.out.2];exact ⟨_,_,_,_,_,_,HS.out⟩
 case rest =>
 obtain ⟨lu,hv,wv,gv,nv,css,Hb⟩:=hcut;have Ht:Rep3 ar:=by have:=zKt m.view H3.out;rwa [HA.out] at this
 have Vs:ar.me=r.me:=by have:=zSh r m.view;rwa [HA.out] at this
 obtain ⟨E0,z0,a,c1,b,c2,d,c3,e,c4,Ao,co,rfl,rfl,rfl,rfl,rfl,rfl⟩:=Hb.forms Ht;obtain ⟨W2,Vt⟩:=mJ (wc);rw [<- Vt] at Hb ⊢;have HS:=mA Hb;have Hd:=mA Ht;have Nv:=mA Vs;clear Vt Hb Ht Vs;obtain ⟨p0,-⟩:=cz2 HS.out.mb;go_upto_region 41 with fail
 clear p0;obtain ⟨Vu,⟨cur,hB⟩,_,Vv,Vw⟩:=ones3' HS.out.rw_.own.own.wants Hd.out.2.1;obtain ⟨wq,Va⟩:∃ b,ar.wants[fn]? = some b:=⟨_,mH (by rw [Hd.out.2.1];exact Ka)⟩;have dh:W2.cell? ⟨b,fn,none⟩=some (.bool wq):=by rw [Vw _ Ka,List.getElem?_map,Va];rfl
 have dal:=World.block_lt_of_cell? W2 _ dh;have Vx:ar.wants.getD m.from_.toNat false=wq:=by rw [Kb.out,Int.toNat_natCast,mI,Va];rfl
 have Vy:=mA Vx;have HB:=mA (mB hB (mB Vu Vv));have Nd:(0:Int)<=(fn:Int):=by omega
 have Ne:(fn:Int) < 3:=by omega
 obtain ⟨bc,Vz⟩:∃ b:Bool,decide (ar.kept.calm=true\/wq=true)=b:=⟨_,rfl⟩;have Ks:=mA Vz;clear Vw Va Vx hB Vu Vv Vz;go_cut [278] from 265 to 277 (fun bv wx=>bv=.bool bc/\wx=W2.drew)
 case first =>
  cases Hu:ar.kept.calm with
  | true =>
    have HE:=mA (show true=bc by rw [<- Ks.out];simp [Hu]);have HQ:=mA Hu;clear Hu;obtain ⟨S,Hc⟩:∃ S:World->Prop,S=fun w'=>Below W2.heap.size W2 w':=⟨_,rfl⟩
    have He:S W2.drew:=by rw [Hc];exact (mG _ _).drew
    refine wp_region_held (S:=S) (by kernel_rfl) ?_;change wpAnyH _ _ _ _ _ _ _ _ W2.drew;refine tkHs [0,1,2,3,4,5,6,7,8,9,10,11,12,13] (by kernel_rfl) (fun _ _ _ _ _ h=>h) He ?_;iterate 14
     first
     | (refine tkc (v:=?_) rfl (Or.inl ⟨by rfl,?_⟩) ?_;rotate_left;(intro wv Ha;rw [Hc] at Ha;obtain ⟨q0,q1,q2,q3,q4,q5,q6,q7,q8,q9⟩:=cz10 (HS.out.rw_.rb.same Ha);obtain ⟨p0,p1,p2,p3,p4,p5,p6,p7⟩:=cz8 (HS.out.mb.same Ha);(rw [HQ.out] at q3;rw [Kb.out] at p1;have q10:=cW Ha dal dh);go_simp;with_reducible rfl);(try simp only [Act.put,zp1,zp2,zp3]))
     | (refine tkc (v:=undef) rfl (Or.inr ⟨by rfl,rfl⟩) ?_;(try simp only [Act.put,zp1,zp2,zp3]))
    exact zA5
  | false =>
    have HE:=mA (show wq=bc by rw [<- Ks.out];simp [Hu]);have HQ:=mA Hu;clear Hu;obtain ⟨S,Hc⟩:∃ S:World->Prop,S=fun w'=>Below W2.heap.size W2 w':=⟨_,rfl⟩
    have He:S W2.drew:=by rw [Hc];exact (mG _ _).drew
    refine wp_region_held (S:=S) (by kernel_rfl) ?_;change wpAnyH _ _ _ _ _ _ _ _ W2.drew;refine tkHs [0,1,2,3,4,5,6,7,8,9,10,11,12,13] (by kernel_rfl) (fun _ _ _ _ _ h=>h) He ?_;iterate 14
     first
     | (refine tkc (v:=?_) rfl (Or.inl ⟨by rfl,?_⟩) ?_;rotate_left;(intro wv Ha;rw [Hc] at Ha;obtain ⟨q0,q1,q2,q3,q4,q5,q6,q7,q8,q9⟩:=cz10 (HS.out.rw_.rb.same Ha);obtain ⟨p0,p1,p2,p3,p4,p5,p6,p7⟩:=cz8 (HS.out.mb.same Ha);(rw [HQ.out] at q3;rw [Kb.out] at p1;have q10:=cW Ha dal dh);go_simp;with_reducible rfl);(try simp only [Act.put,zp1,zp2,zp3]))
     | (refine tkc (v:=undef) rfl (Or.inr ⟨by rfl,rfl⟩) ?_;(try simp only [Act.put,zp1,zp2,zp3]))
    exact zA5
 case rest =>
 obtain ⟨rfl,Kc⟩:=hcut;rw [Kc];clear Kc;have Hl:=(mG W2.heap.size W2).drew;have HS:=mA (HS.out.below Hl);have HB:=mA (mB (HB.out.1.same Hl) HB.out.2.1);have dh:=cW Hl dal dh;obtain ⟨W3,Ga⟩:=mJ (W2.drew);rw [<- Ga] at HS HB dh ⊢;clear Ga Hl dal;cases bc with
 | true =>
   have Kd:ar.kept.calm=true\/wq=true:=of_decide_eq_true Ks.out;have Gb:Scu.hearWant r m=(ar,am):=by unfold Scu.hearWant;rw [HA.out];simp only;rw [Vy.out,if_pos Kd]
   have HE:=mA (Prod.mk.inj (Gb.symm.trans HH.out));clear Gb Kd;go_upto_if 278 with fail
   go_wp2
   go_ret
   rw [<- HE.out.1,<- HE.out.2];first | exact ⟨⟨_,rfl,_,HS.out.out⟩,HS.out.rw_.e,HS.out.low⟩ | exact ⟨⟨_,_,rfl,HS.out.out⟩,HS.out.rw_.e,HS.out.low⟩
 | false =>
 have Kd:¬ (ar.kept.calm=true\/wq=true):=of_decide_eq_false Ks.out;have Nf:=mA Kd;clear Kd;go_upto_if 278 with fail
 go_upto_region 43 with fail
 have fz5:=HB.out.1.frozen fn;obtain ⟨q0,q1,q2,q3,q4,q5,q6,q7,q8,q9⟩:=cz10 HS.out.rw_.rb;obtain ⟨p0,p1,p2,p3,p4,p5,p6,p7⟩:=cz8 HS.out.mb;rw [Kb.out] at p1;go_region
 have Hb:=((HS.out.upd (HS.out.rw_.put_wants HB.out.1 HB.out.2 fn true).1 (Same.set_ HB.out.1 (mE _) (by decide) fn _) (HS.out.rw_.put_wants HB.out.1 HB.out.2 fn true).2).below (mG _ _).drew);clear fz5 dh q0 q1 q2 q3 q4 q5 q6 q7 q8 q9 p0 p1 p2 p3 p4 p5 p6 p7;obtain ⟨W4,Gc⟩:=mJ ((W3.setCell ⟨b,fn,none⟩ (.bool true)).drew);obtain ⟨br,Hv⟩:=mJ (({ ar with wants:=ar.wants.set fn true } : Scu.Replica));rw [<- Gc] at Hb ⊢;change HrS _ _ _ _ _ ({ ar with wants:=ar.wants.set fn true } : Scu.Replica) _ _ _ _ _ _ _ _ _ _ _ at Hb;rw [<- Hv,show ar.kept.log.length=br.kept.log.length by rw [Hv]] at Hb;have Ht:Rep3 br:=by rw [Hv];exact ⟨Hd.out.1,by simp [Hd.out.2.1],Hd.out.2.2.1,Hd.out.2.2.2.1,Hd.out.2.2.2.2.1,Hd.out.2.2.2.2.2⟩
 have Gd:(∀ k ∈ br.gives,0<=k.normal)/\0<=br.kept.normal/\0<=br.kept.view:=by
  have h1:=zMz m.view Kw.out.1;have h2:=zSj r m.view;have h4:=zXp (v:=m.view) Kw.out.2.2;rw [HA.out] at h1 h2 h4;rw [Hv];exact ⟨h1,by show 0<=ar.kept.normal;rw [show ar.kept.normal=r.kept.normal from h2];exact Kw.out.2.1,h4⟩
 have Ge:Scu.hearWant r m=(if Scu.leader br.kept.view=br.me then ((Scu.take1 br (Scu.leader br.kept.view) br.kept).1,am ++ (Scu.take1 br (Scu.leader br.kept.view) br.kept).2) else (br,am ++ [{ Scu.msg0 with kind:=4,from_:=br.me,tq:=Scu.leader br.kept.view,view:=br.kept.view,normal:=br.kept.normal,commit:=br.kept.commit,log:=br.kept.log }])):=by
  unfold Scu.hearWant;rw [HA.out];simp only
  rw [Vy.out,if_neg Nf.out,Hv,show m.from_.toNat=fn by rw [Kb.out];rfl]
 have HS:=mA Hb;have Hd:=mA Ht;have Vb:=mA Gd;have Gf:=mA Ge;clear Gc Hv Hb Ht Gd Ge HB;obtain ⟨mn,Gg⟩:∃ n:Nat,br.me=n:=⟨br.me.toNat,by have:=Hd.out.2.2.2.2.1;omega⟩;have Vc:mn < 3:=by have:=Hd.out.2.2.2.2.2;omega
 have Ng:(0:Int)<=(mn:Int):=by omega
 have Nh:(mn:Int) < 3:=by omega
 have Ke:=mA Gg;clear Gg;obtain ⟨q0,q1,-⟩:=cz3 HS.out.rw_.rb;have Hp:=Vb.out.2.2;by_cases hto:br.kept.view % 3=br.me
 ·go_upto_region 46 with fail
  have Gh:=mA hto;clear q0 q1 Hp hto;obtain ⟨S,Hc⟩:∃ S:World->Prop,S=fun w'=>Below W4.heap.size W4 w':=⟨_,rfl⟩
  have He:S W4.drew:=by rw [Hc];exact (mG _ _).drew
  refine zDn S 13 (by kernel_rfl) (fun Hw=>?_);change wpAnyE _ _ _ _ _ _ _ _ _ W4.drew;refine tkEs 16 [0,1,2,3,4,5,6,7,8,9,10] (by kernel_rfl) (fun _ _ _ _ _ h=>h) Hw He ?_;iterate 11
   first
   | (refine tkc (v:=?_) rfl (Or.inl ⟨by rfl,?_⟩) ?_;rotate_left;(intro wv Ha;rw [Hc] at Ha;obtain ⟨q0,q1,q2,q3,q4,q5,q6,q7,q8,q9⟩:=cz10 (HS.out.rw_.rb.same Ha);obtain ⟨p0,p1,p2,p3,p4,p5,p6,p7⟩:=cz8 (HS.out.mb.same Ha);(rw [Ke.out] at q0);go_simp;with_reducible rfl);(try simp only [Act.put,zp1,zp2,zp3]))
   | (refine tkc (v:=undef) rfl (Or.inr ⟨by rfl,rfl⟩) ?_;(try simp only [Act.put,zp1,zp2,zp3]))
  refine tkz (fun Hw=>?_);refine alE 11 (by kernel_rfl) (wpOp_step (o:=_) rfl fun KA Kf=>?_);go_simp;have Hl:Below W4.heap.size W4 W4.drew:=(mG _ _).drew;have Hf:=zXq HS.out.rw_ Hl;rw [Ke.out] at Hf;refine Hf.mono ?_;rintro en x4 ⟨⟨Au,cu,rfl,Hi⟩,Hm⟩;have Hm:Below W4.heap.size W4 x4:=Hl.trans (Hm.mono Hl.size);have Kg:S x4:=by rw [Hc];exact Hm
  refine Kf _ _ ⟨.inr Kg,?_⟩;have Hw:=Hw.set (i:=11) (by rw [<- List.contains_iff_mem];kernel_rfl);refine puT ?_;have Gi:=mA (mB Hi Hm);clear Kf He Hi Hm Hl Hf;refine tkEs 16 [12] (by kernel_rfl) (fun _ _ _ _ _ h=>h) Hw Kg ?_;iterate 1
   first
   | (refine tkc (v:=?_) rfl (Or.inl ⟨by rfl,?_⟩) ?_;rotate_left;(intro wv Ha;rw [Hc] at Ha;obtain ⟨q0,q1,q2,q3,q4,q5,q6,q7,q8,q9⟩:=cz10 (HS.out.rw_.rb.same Ha);obtain ⟨p0,p1,p2,p3,p4,p5,p6,p7⟩:=cz8 (HS.out.mb.same Ha);(rw [Ke.out] at q0);go_simp;with_reducible rfl);(try simp only [Act.put,zp1,zp2,zp3]))
   | (refine tkc (v:=undef) rfl (Or.inr ⟨by rfl,rfl⟩) ?_;(try simp only [Act.put,zp1,zp2,zp3]))
  refine tkz (fun Hw=>?_);refine alE 13 (by kernel_rfl) (wpOp_step (o:=_) rfl fun KB Kh=>?_);rw [if_pos (by rfl)];have Kt:=mA (HS.out.below Gi.out.2);have Gj:mn < br.gives.length:=by rw [Hd.out.2.2.1];exact Vc
  refine wp_store_mid 42 (.tmp 310) (.tmp 309) rfl d (mn*5) #[.int .i64 br.kept.view,.int .i64 br.kept.normal,.bool false,.slice Au br.kept.log.length cu,.int .i64 br.kept.commit] (by go_simp) rfl (zGq Kt.out.rw_ Gj) (by kernel_rfl) zGd ?_;obtain ⟨Gk,Hx⟩:=Kt.out.rw_.put_gives (i:=mn) Gj (k:=⟨br.kept.view,br.kept.normal,false,br.kept.log,br.kept.commit⟩) Gi.out.1.is;obtain ⟨_,Gl⟩:=zJr Kt.out.rw_;have Gm:Same [9,99] 0 x4 (x4.setCells d (mn*5) [.int .i64 br.kept.view,.int .i64 br.kept.normal,.bool false,.slice Au br.kept.log.length cu,.int .i64 br.kept.commit]):=Same.sets _ _ _ _ Gl (by decide);have Hb:=Kt.out.upd Gk Gm Hx;obtain ⟨W5,Hq⟩:=mJ (x4.setCells d (mn*5) [.int .i64 br.kept.view,.int .i64 br.kept.normal,.bool false,.slice Au br.kept.log.length cu,.int .i64 br.kept.commit]);change HrS _ (x4.setCells d (mn*5) [.int .i64 br.kept.view,.int .i64 br.kept.normal,.bool false,.slice Au br.kept.log.length cu,.int .i64 br.kept.commit]) _ _ _ _ _ _ _ _ _ _ _ _ _ _ _ at Hb;rw [<- Hq] at Hb;refine Kh _ _ ⟨.inl rfl,zDm (by kernel_rfl) ?_ _⟩;refine puT ?_;change Exit.then _ _ _ _ (x4.setCells d (mn*5) [.int .i64 br.kept.view,.int .i64 br.kept.normal,.bool false,.slice Au br.kept.log.length cu,.int .i64 br.kept.commit]);rw [<- Hq];obtain ⟨r3,Ki⟩:=mJ (({ br with gives:=br.gives.set mn ⟨br.kept.view,br.kept.normal,false,br.kept.log,br.kept.commit⟩ } : Scu.Replica));change HrS _ _ _ _ _ ({ br with gives:=br.gives.set mn ⟨br.kept.view,br.kept.normal,false,br.kept.log,br.kept.commit⟩ } : Scu.Replica) _ _ _ _ _ _ _ _ _ _ _ at Hb;rw [<- Ki] at Hb;have Vd:=mA Ki;have Hy:=mA Hb;have Ve:r3.given.length=3:=by rw [Ki];exact Hd.out.2.2.2.1
  have Kj:r3.me=mn:=by rw [Ki];exact Ke.out
  have Ni:=mA Kj;clear Hq Hb Gm Gk Hx Kg Hc Kh Gl Ki Kj;go_upto_region 47 with fail
  obtain ⟨Gn,⟨cur5,Go⟩,_,Kk,Kl⟩:=ones3' Hy.out.rw_.own.own.given Ve;have dh5:=Kl _ Vc;obtain ⟨gv5,Km⟩:∃ b,r3.given[mn]? = some b:=⟨_,mH (by rw [Ve];exact Vc)⟩;rw [List.getElem?_map,Km] at dh5;change W5.cell? ⟨e,mn,none⟩=some (.bool gv5) at dh5;have fz5:=Kk mn;obtain ⟨q0,q1,q2,q3,q4,q5,q6,q7,q8,q9⟩:=cz10 Hy.out.rw_.rb;obtain ⟨p0,p1,p2,p3,p4,p5,p6,p7⟩:=cz8 Hy.out.mb
  (rw [Ni.out] at q0)
  clear Kl Kk Ve Km;have Kn:=mA (mB Go Gn);clear Go Gn;go_region
  have HN:=mA ((Hy.out.upd (Hy.out.rw_.put_given Kn.out.1 Kn.out.2 mn true).1 (Same.set_ Kn.out.1 (mE _) (by decide) mn _) (Hy.out.rw_.put_given Kn.out.1 Kn.out.2 mn true).2).below (mG _ _).drew);clear dh5 fz5 q0 q1 q2 q3 q4 q5 q6 q7 q8 q9 p0 p1 p2 p3 p4 p5 p6 p7;obtain ⟨r4,Vf⟩:=mJ (Scu.give1 br (Scu.leader br.kept.view) br.kept);have Hn:r4 = { r3 with given:=r3.given.set mn true }:=by rw [Vf,Vd.out];unfold Scu.give1;rw [show (Scu.leader br.kept.view).toNat=mn by rw [show Scu.leader br.kept.view=br.me from Gh.out,Ke.out];rfl];rfl
  have Gp:Rep3 r4:=by rw [Hn,Vd.out];exact ⟨Hd.out.1,Hd.out.2.1,by simp [Hd.out.2.2.1],by simp [Hd.out.2.2.2.1],Hd.out.2.2.2.2.1,Hd.out.2.2.2.2.2⟩
  have Gq:∀ k ∈ r4.gives,0<=k.normal:=by rw [Hn,Vd.out];exact zLm Vb.out.1 Vb.out.2.1
  have Ko:Scu.hearWant r m=((Scu.begun r4).1,am ++ (Scu.begun r4).2):=by rw [Gf.out,if_pos (show Scu.leader br.kept.view=br.me from Gh.out)];unfold Scu.take1;rw [Vf]
  have Hb:=HN.out;obtain ⟨W6,Gr⟩:=mJ ((W5.setCell ⟨e,mn,none⟩ (.bool true)).drew);rw [<- Gr] at Hb ⊢;rw [<- Hn] at Hb;have HS:=mA Hb;have Nj:=mA Gp;have Nk:=mA Gq;have Nl:=mA Ko;clear Gr Hb Gp Gq Ko Vf Hn HN;obtain ⟨rb,Ku⟩:=mK (Scu.begun r4);obtain ⟨rr2,ms2⟩:=rb;have Vg:=Nl.out.symm.trans HH.out;rw [Ku] at Vg;obtain ⟨Gs,Gt⟩:=Prod.mk.inj Vg;have Hz:=zMy r4;rw [Ku] at Hz;have Hj:=zCx r m.view;rw [HA.out] at Hj;have Nm:=mA Ku;have Gu:=mA (mB Gs Gt);clear Ku Vg Gs Gt;go_wp2_with fail
  refine (zSg g base r4 _ _ _ _ _ _ HS.out.rw_ Nj.out Nk.out rr2 ms2 Nm.out).mono ?_;rintro en x5 ⟨⟨ov2,css2,rfl,Vh⟩,Hr,Kv⟩;obtain ⟨A5,c5,rfl⟩:=Vh.form;have H5:=mA (mB (HS.out.out.same Kv.same) (mB Vh (mB Hr (HS.out.low.trans Kv.low))));have Nn:=mA (show (am.length+ms2.length)*80<=R47 from by unfold R47;(have Hj:am.length<=3:=Hj);(have Hz:ms2.length<=3:=Hz);omega);have Hg:=mA (show am.length+ms2.length<=maxLen/\(am.length+ms2.length)*80<=140737488355328 from by unfold maxLen;(have Hj:am.length<=3:=Hj);(have Hz:ms2.length<=3:=Hz);omega);have Kp:=mA (mD (HS.out.rw_.base_le) (mD (mC _) (Below.size Kv.low)));clear Vh Hr Kv Hj Hz;go_wp2_with (at_builtin;refine zAz _ rfl (.tmp 320) (.tmp 322) 25 rfl zCr base (.slice Ao am.length co) am.length css.flatten rfl H5.out.1.row (.slice A5 ms2.length c5) ms2.length css2.flatten rfl H5.out.2.1.src.2.1 H5.out.2.1.src.2.2 Hg.out.1 Hg.out.2 Kp.out ?_)
  intro v6 x6 h6 Ho _;have Hi:=H5.out.1.append H5.out.2.1 Nn.out h6 Ho;have Hr:=H5.out.2.2.1.app (Same.own H5.out.1.row Ho (mE _) (by decide));have Kq:=H5.out.2.2.2.grown Ho Kp.out (fun q hq=>(H5.out.1.row.lt q hq).1);have HZ:=mA (mB Hi (mB Hr Kq));clear h6 Ho Hi Hr Kq;go_wp2
  go_ret
  rw [<- Gu.out.1,<- Gu.out.2];exact zX4
 have Gv:Scu.hearWant r m=(br,am ++ [{ Scu.msg0 with kind:=4,from_:=br.me,tq:=Scu.leader br.kept.view,view:=br.kept.view,normal:=br.kept.normal,commit:=br.kept.commit,log:=br.kept.log }]):=by rw [Gf.out,if_neg (show ¬ Scu.leader br.kept.view=br.me from hto)]
 have HE:=mA (Prod.mk.inj (Gv.symm.trans HH.out));clear Gv;go_upto_region 49 with fail
 obtain ⟨tv,Vi⟩:=mK (br.kept.view % 3);rw [Vi];have No:=mA (show Scu.leader br.kept.view=tv from Vi);clear Vi hto;clear q0 q1 Hp;obtain ⟨q0,q1,q2,q3,q4,q5,q6,q7,q8,q9⟩:=cz10 HS.out.rw_.rb;go_wp2_with fail
 refine (zXq HS.out.rw_ (mG W4.heap.size W4)).mono ?_;rintro en x4 ⟨⟨Au,cu,rfl,Hi⟩,Hm⟩;clear q0 q1 q2 q3 q4 q5 q6 q7 q8 q9;go_upto_region 50 with fail
 obtain ⟨W5,Hq⟩:=mJ (x4.alloc (.cells #[.int .i64 br.kept.view,.int .i64 br.kept.normal,.bool false,.slice Au br.kept.log.length cu,.int .i64 br.kept.commit] 42));rw [<- Hq];have Vj:Blk W5 x4.heap.size 42 #[.int .i64 br.kept.view,.int .i64 br.kept.normal,.bool false,.slice Au br.kept.log.length cu,.int .i64 br.kept.commit]:=by rw [Hq];exact Blk.new _ _ _
 have Hx:Below x4.heap.size x4 W5:=by rw [Hq];exact zAa _ _
 obtain ⟨gk,Gw⟩:=mK (x4.heap.size);have HS:=mA (HS.out.below (Hm.trans (Hx.mono Hm.size)));have Np:=mA (Hi.is.below Hx);rw [Gw] at Vj ⊢;have Gx:=mA Vj;clear Hq Vj Hx Hm Hi Gw;obtain ⟨S,Hc⟩:∃ S:World->Prop,S=fun w'=>Blk w' g 47 #[.int .i64 br.me,.int .i64 br.kept.view,.int .i64 br.kept.normal,.bool br.kept.calm,.slice E0 br.kept.log.length z0,.int .i64 br.kept.commit,.slice (some ⟨a,0,none⟩) 3 c1,.slice (some ⟨b,0,none⟩) 3 c2,.slice (some ⟨d,0,none⟩) 3 c3,.slice (some ⟨e,0,none⟩) 3 c4]/\Blk w' gk 42 #[.int .i64 br.kept.view,.int .i64 br.kept.normal,.bool false,.slice Au br.kept.log.length cu,.int .i64 br.kept.commit]:=⟨_,rfl⟩
 have He:S W5.drew:=by rw [Hc];exact ⟨HS.out.rw_.rb.drew,Gx.out.drew⟩
 refine wp_region_held (S:=S) (by kernel_rfl) ?_;change wpAnyH _ _ _ _ _ _ _ _ W5.drew;refine tkHs [0,1,2,3,4,5,6,7,8,9,10,11,12,13,14,15,16] (by kernel_rfl) (fun _ _ _ _ _ h=>h) He ?_;iterate 17
  (refine tkc (v:=?_) rfl (Or.inl ⟨by rfl,?_⟩) ?_;rotate_left;(intro wv Ha;rw [Hc] at Ha;obtain ⟨q0,q1,q2,q3,q4,q5,q6,q7,q8,q9⟩:=cz10 Ha.1;obtain ⟨p0,p1,p2,p3,p4⟩:=cz5 Ha.2;go_simp;(try with_reducible rfl));(try simp only [Act.put,zp1,zp2,zp3]))
 refine tkz ?_;refine alH 17 (by kernel_rfl) (wpOp_step (o:=_) rfl fun KA Kf=>?_);go_simp;have Hh:=((mG W5.heap.size W5).alloc (mC _) (.cells #[.int .i64 4,.int .i64 br.me,.int .i64 tv,.int .i64 br.kept.view,.int .i64 br.kept.normal,.int .i64 br.kept.commit,.int .i64 0,.slice Au br.kept.log.length cu] 99)).drew;have Vk:Src1 (W5.alloc (.cells #[.int .i64 4,.int .i64 br.me,.int .i64 tv,.int .i64 br.kept.view,.int .i64 br.kept.normal,.int .i64 br.kept.commit,.int .i64 0,.slice Au br.kept.log.length cu] 99)).drew 8 (.slice (some ⟨W5.heap.size,0,none⟩) 1 1) 1 (msgV { Scu.msg0 with kind:=4,from_:=br.me,tq:=tv,view:=br.kept.view,normal:=br.kept.normal,commit:=br.kept.commit,log:=br.kept.log } (.slice Au br.kept.log.length cu)):=zZl;obtain ⟨Wt,Gy⟩:=mJ ((W5.alloc (.cells #[.int .i64 4,.int .i64 br.me,.int .i64 tv,.int .i64 br.kept.view,.int .i64 br.kept.normal,.int .i64 br.kept.commit,.int .i64 0,.slice Au br.kept.log.length cu] 99)).drew);rw [<- Gy] at Hh Vk ⊢;have Hk:=mA (mB (HS.out.below Hh) (mB (Np.out.below Hh) Vk));have Vl:=Gx.out.same Hh;have Kg:S Wt:=by rw [Hc];exact ⟨Hk.out.1.rw_.rb,Vl⟩
 refine Kf _ _ ⟨Kg,?_⟩;refine puT ?_;have Nq:=mA Hh;clear Gy Kf He Hh Vk;have Hj:=zCx r m.view;rw [HA.out] at Hj;have Hj:am.length<=3:=Hj;have Hg:=mA (show (am.length+1)*80<=R47/\am.length+1<=maxLen/\(am.length+1)*80<=140737488355328 from by unfold R47 maxLen;omega);have Kp:=mA (mD HS.out.rw_.base_le Nq.out.size);clear Hj;refine alH 18 (by kernel_rfl) (wpOp_step (o:=_) rfl fun KB Kh=>?_);rw [if_pos (by rfl)];refine zCi _ (.tmp 328) (.tmp 345) 25 rfl zCr base (.slice Ao am.length co) am.length css.flatten rfl Hk.out.1.out.row (.slice (some ⟨W5.heap.size,0,none⟩) 1 1) 1 (msgV { Scu.msg0 with kind:=4,from_:=br.me,tq:=tv,view:=br.kept.view,normal:=br.kept.normal,commit:=br.kept.commit,log:=br.kept.log } (.slice Au br.kept.log.length cu)) rfl Hk.out.2.2 zPg Hg.out.2.1 Hg.out.2.2 Kp.out ?_;intro v6 x6 h6 Ho _;have Hi:=Hk.out.1.out.push (m:={ Scu.msg0 with kind:=4,from_:=br.me,tq:=tv,view:=br.kept.view,normal:=br.kept.normal,commit:=br.kept.commit,log:=br.kept.log }) Hg.out.1 Hk.out.2.1 rfl h6 Ho;have Hs:Same [9,3,4,42,47] 0 Wt x6:=Same.own Hk.out.1.out.row Ho (mE _) (by decide);have Hr:=Hk.out.1.rw_.e.app Hs;have Kq:=Hk.out.1.low.grown Ho Kp.out (fun q hq=>(Hk.out.1.out.row.lt q hq).1);have Gz:S x6:=by rw [Hc];exact ⟨zAc Hk.out.1.rw_.rb Hs (by simp),zAc Vl Hs (by simp)⟩
 have HZ:=mA (mB Hi (mB Hr Kq));refine Kh _ _ ⟨Gz,?_⟩;refine puT ?_;clear h6 Ho Hi Hr Kq Hs Vl Kh;refine tkHs [19] (by kernel_rfl) (fun _ _ _ _ _ h=>h) Gz ?_;iterate 1
  (refine tkc (v:=?_) rfl (Or.inl ⟨by rfl,?_⟩) ?_;rotate_left;(intro wv Ha;go_simp;(try with_reducible rfl));(try simp only [Act.put,zp1,zp2,zp3]))
 refine tkz ?_;refine wpAnyH_done (by kernel_rfl) ?_ _;change Exit.then _ _ _ _ x6;go_wp2
 go_ret
 rw [<- HE.out.1,<- HE.out.2,No.out];exact zX4
end Go.Proofs.YtlngfbngnnepiaaGreat
