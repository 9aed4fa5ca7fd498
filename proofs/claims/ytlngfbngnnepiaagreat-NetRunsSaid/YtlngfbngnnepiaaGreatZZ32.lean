/- Part 32: words and walks under the laws of the whole. -/
import Derived.Test.YtlngfbngnnepiaaGreatZZ31
set_option linter.unusedVariables false
set_option linter.unusedSimpArgs false
set_option maxHeartbeats 4000000
set_option maxRecDepth 100000
namespace Go.Proofs.YtlngfbngnnepiaaGreat
open Go.RowKit
theorem zP4 {P:Prop} (h:P:=by
 obtain ⟨rfl,Hn⟩:=hcut;rw [Hn];clear Hn;by_cases hgt:r1.kept.commit < com
 ·have Hl:=mA (show ({ r1 with kept:={ r1.kept with commit:=com } },[{ Scu.msg0 with kind:=2,from_:=r1.me,tq:=m.from_,view:=r1.kept.view,n:=r1.kept.log.length }])=(rr,ms) by
   have h:=Kg.out;rw [<- He.out.2,show max r1.kept.commit com=com by omega,<- HM.out] at h;exact h)
  have qz:=HS.out.rw_.rb.frozen 5;go_upto_region 28 with fail
  obtain ⟨W7,Kh⟩:=mJ (W6.setCell ⟨g,5,none⟩ (.int .i64 com));have Hc:=HS.out.upd (HS.out.rw_.set_commit com) (Same.set_ HS.out.rw_.rb (mE _) (by decide) 5 _) (HS.out.rw_.rcell 5 (.int .i64 com)).2;rw [<- Kh] at Hc ⊢;obtain ⟨rq,Hm⟩:=mJ ({ r1 with kept:={ r1.kept with commit:=com } });have Hl:=mA (show (rq,[{ Scu.msg0 with kind:=2,from_:=rq.me,tq:=m.from_,view:=rq.kept.view,n:=rq.kept.log.length }])=(rr,ms) by rw [Hm];exact Hl.out);have HS:=mA (show HrS w W7 base g gm rq (.slice E0 rq.kept.log.length z0) (.slice (some ⟨a,0,none⟩) 3 c1) (.slice (some ⟨b,0,none⟩) 3 c2) (.slice (some ⟨d,0,none⟩) 3 c3) (.slice (some ⟨e,0,none⟩) 3 c4) m A c (.slice none 0 0) [] [] by rw [Hm];exact Hc);clear Kh Hc Hm q4 q5 p5 qz;obtain ⟨S,Hb⟩:∃ S:World->Prop,S=fun w'=>Below W7.heap.size W7 w':=⟨_,rfl⟩
  have Hd:S W7.drew:=by rw [Hb];exact (mG _ _).drew
  refine wp_region_held (S:=S) (by kernel_rfl) ?_;change wpAnyH _ _ _ _ _ _ _ _ W7.drew;refine tkHs [0,1,2,3,4,5,6,7,8,9,10,11,12,13,14,15] (by kernel_rfl) (fun _ _ _ _ _ h=>h) Hd ?_;iterate 16
   first
   | (refine tkc (v:=?_) rfl (Or.inl ⟨by rfl,?_⟩) ?_;rotate_left;(intro wv Ha;rw [Hb] at Ha;obtain ⟨q0,q1,q2,q3,q4,q5,q6,q7,q8,q9⟩:=cz10 (HS.out.rw_.rb.same Ha);obtain ⟨p0,p1,p2,p3,p4,p5,p6,p7⟩:=cz8 (HS.out.mb.same Ha);skip;go_simp;with_reducible rfl);(try simp only [Act.put,zp1,zp2,zp3]))
   | (refine tkc (v:=undef) rfl (Or.inr ⟨by rfl,rfl⟩) ?_;(try simp only [Act.put,zp1,zp2,zp3]))
  refine tkz ?_;refine alH 16 (by kernel_rfl) (wpOp_step (o:=_) rfl fun KA Hj=>?_);go_simp;have Hf:=((mG W7.heap.size W7).alloc (mC _) (.cells #[.int .i64 2,.int .i64 rq.me,.int .i64 m.from_,.int .i64 rq.kept.view,.int .i64 0,.int .i64 0,.int .i64 rq.kept.log.length,.slice none 0 0] 99)).drew;have Hi:=(Blk.new W7 99 #[.int .i64 2,.int .i64 rq.me,.int .i64 m.from_,.int .i64 rq.kept.view,.int .i64 0,.int .i64 0,.int .i64 rq.kept.log.length,.slice none 0 0]).drew;obtain ⟨Wt,Hr⟩:=mJ ((W7.alloc (.cells #[.int .i64 2,.int .i64 rq.me,.int .i64 m.from_,.int .i64 rq.kept.view,.int .i64 0,.int .i64 0,.int .i64 rq.kept.log.length,.slice none 0 0] 99)).drew);rw [<- Hr] at Hf Hi ⊢;have Hh:S Wt:=by rw [Hb];exact Hf
  refine Hj _ _ ⟨Hh,?_⟩;refine puT ?_;clear Hr Hj Hd;refine tkHs [17] (by kernel_rfl) (fun _ _ _ _ _ h=>h) Hh ?_;iterate 1
   first
   | (refine tkc (v:=?_) rfl (Or.inl ⟨by rfl,?_⟩) ?_;rotate_left;(intro wv Ha;rw [Hb] at Ha;obtain ⟨q0,q1,q2,q3,q4,q5,q6,q7,q8,q9⟩:=cz10 (HS.out.rw_.rb.same Ha);obtain ⟨p0,p1,p2,p3,p4,p5,p6,p7⟩:=cz8 (HS.out.mb.same Ha);skip;go_simp;with_reducible rfl);(try simp only [Act.put,zp1,zp2,zp3]))
   | (refine tkc (v:=undef) rfl (Or.inr ⟨by rfl,rfl⟩) ?_;(try simp only [Act.put,zp1,zp2,zp3]))
  refine tkz ?_;refine wpAnyH_done (by kernel_rfl) ?_ _;change Exit.then _ _ _ _ Wt;have HT:=mA (mB (zFu (m:={ Scu.msg0 with kind:=2,from_:=rq.me,tq:=m.from_,view:=rq.kept.view,n:=rq.kept.log.length }) Hi rfl rfl (mD HS.out.rw_.base_le (mC _))) (HS.out.below Hf));clear Hh Hb Hf Hi;go_wp2
  go_ret
  obtain ⟨Hk,Hw⟩:=Prod.mk.inj Hl.out;rw [<- Hk,<- Hw];first | exact ⟨⟨_,rfl,_,HT.out.1⟩,HT.out.2.rw_.e,HT.out.2.low⟩ | exact ⟨⟨_,_,rfl,HT.out.1⟩,HT.out.2.rw_.e,HT.out.2.low⟩
 ·have Hl:=mA (show (r1,[{ Scu.msg0 with kind:=2,from_:=r1.me,tq:=m.from_,view:=r1.kept.view,n:=r1.kept.log.length }])=(rr,ms) by
   have h:=Kg.out;rw [<- He.out.2,show max r1.kept.commit com=r1.kept.commit by omega,<- HM.out] at h;exact h)
  go_upto_region 28 with fail
  obtain ⟨rq,Hm⟩:=mK (r1);rw [Hm] at Hl HS;clear Hm q4 q5 p5;obtain ⟨S,Hb⟩:∃ S:World->Prop,S=fun w'=>Below W6.heap.size W6 w':=⟨_,rfl⟩
  have Hd:S W6.drew:=by rw [Hb];exact (mG _ _).drew
  refine wp_region_held (S:=S) (by kernel_rfl) ?_;change wpAnyH _ _ _ _ _ _ _ _ W6.drew;refine tkHs [0,1,2,3,4,5,6,7,8,9,10,11,12,13,14,15] (by kernel_rfl) (fun _ _ _ _ _ h=>h) Hd ?_;iterate 16
   first
   | (refine tkc (v:=?_) rfl (Or.inl ⟨by rfl,?_⟩) ?_;rotate_left;(intro wv Ha;rw [Hb] at Ha;obtain ⟨q0,q1,q2,q3,q4,q5,q6,q7,q8,q9⟩:=cz10 (HS.out.rw_.rb.same Ha);obtain ⟨p0,p1,p2,p3,p4,p5,p6,p7⟩:=cz8 (HS.out.mb.same Ha);skip;go_simp;with_reducible rfl);(try simp only [Act.put,zp1,zp2,zp3]))
   | (refine tkc (v:=undef) rfl (Or.inr ⟨by rfl,rfl⟩) ?_;(try simp only [Act.put,zp1,zp2,zp3]))
  refine tkz ?_;refine alH 16 (by kernel_rfl) (wpOp_step (o:=_) rfl fun KA Hj=>?_);go_simp;have Hf:=((mG W6.heap.size W6).alloc (mC _) (.cells #[.int .i64 2,.int .i64 rq.me,.int .i64 m.from_,.int .i64 rq.kept.view,.int .i64 0,.int .i64 0,.int .i64 rq.kept.log.length,.slice none 0 0] 99)).drew;have Hi:=(Blk.new W6 99 #[.int .i64 2,.int .i64 rq.me,.int .i64 m.from_,.int .i64 rq.kept.view,.int .i64 0,.int .i64 0,.int .i64 rq.kept.log.length,.slice none 0 0]).drew;obtain ⟨Wt,Hr⟩:=mJ ((W6.alloc (.cells #[.int .i64 2,.int .i64 rq.me,.int .i64 m.from_,.int .i64 rq.kept.view,.int .i64 0,.int .i64 0,.int .i64 rq.kept.log.length,.slice none 0 0] 99)).drew);rw [<- Hr] at Hf Hi ⊢;have Hh:S Wt:=by rw [Hb];exact Hf
  refine Hj _ _ ⟨Hh,?_⟩;refine puT ?_;clear Hr Hj Hd;refine tkHs [17] (by kernel_rfl) (fun _ _ _ _ _ h=>h) Hh ?_;iterate 1
   first
   | (refine tkc (v:=?_) rfl (Or.inl ⟨by rfl,?_⟩) ?_;rotate_left;(intro wv Ha;rw [Hb] at Ha;obtain ⟨q0,q1,q2,q3,q4,q5,q6,q7,q8,q9⟩:=cz10 (HS.out.rw_.rb.same Ha);obtain ⟨p0,p1,p2,p3,p4,p5,p6,p7⟩:=cz8 (HS.out.mb.same Ha);skip;go_simp;with_reducible rfl);(try simp only [Act.put,zp1,zp2,zp3]))
   | (refine tkc (v:=undef) rfl (Or.inr ⟨by rfl,rfl⟩) ?_;(try simp only [Act.put,zp1,zp2,zp3]))
  refine tkz ?_;refine wpAnyH_done (by kernel_rfl) ?_ _;change Exit.then _ _ _ _ Wt;have HT:=mA (mB (zFu (m:={ Scu.msg0 with kind:=2,from_:=rq.me,tq:=m.from_,view:=rq.kept.view,n:=rq.kept.log.length }) Hi rfl rfl (mD HS.out.rw_.base_le (mC _))) (HS.out.below Hf));clear Hh Hb Hf Hi;go_wp2
  go_ret
  obtain ⟨Hk,Hw⟩:=Prod.mk.inj Hl.out;rw [<- Hk,<- Hw];first | exact ⟨⟨_,rfl,_,HT.out.1⟩,HT.out.2.rw_.e,HT.out.2.low⟩ | exact ⟨⟨_,_,rfl,HT.out.1⟩,HT.out.2.rw_.e,HT.out.2.low⟩):P:=h
theorem zQ4 {P:Prop} (h:P:=by
 have Ho:=mA he;clear he;go_wp2_with fail
 go_meet
 exact ⟨by rw [Ho.out],rfl⟩):P:=h
theorem zR4 {P:Prop} (h:P:=by
 refine tkz ?_;refine wpAnyH_done (by kernel_rfl) ?_ _;change Exit.then _ _ _ _ W1.drew;clear Hd Hb;go_wp2_with fail
 go_meet
 exact ⟨by rw [HE.out],rfl⟩):P:=h
theorem zS4 {P:Prop} (h:P:=by
 go_wp2_with fail
 go_meet
 rw [Kc.out];exact ⟨_,_,_,_,_,HN.out⟩):P:=h
theorem zT4 {P:Prop} (h:P:=by
 by_cases hlc:(r1.kept.log.length:Int) < m.commit
 ·have he:=He.out.1;rw [if_pos hlc] at he;exact zQ4
 have he:=He.out.1;rw [if_neg hlc] at he;exact zQ4):P:=h
theorem zXn (g base:Nat) (r:Scu.Replica) (lu hv wv gv nv:Value) (m:Scu.Message) (A:Option Addr) (c:Nat) (w:World) (hR:RWk w base g r lu hv wv gv nv) (h3:Rep3 r) (hl:LowStrs w base (.slice A m.log.length c) m.log) (hk:m.kind=1) (Kv:m.commit<=m.log.length)
 (rr:Scu.Replica) (ms:List Scu.Message) (hh:Scu.hearLead r m=(rr,ms)) :
 Calls Tryz.prog 72 #[.pointer (some ⟨g,0,none⟩),.agg #[.int .i64 m.kind,.int .i64 m.from_,.int .i64 m.tq,.int .i64 m.view,.int .i64 m.normal,.int .i64 m.commit,.int .i64 m.n,.slice A m.log.length c]] w fun e w'=>(∃ ov css,e=.returned ov/\OwnMs w' base ov ms css)/\RWkE w' base g rr/\Below base w w':=by
 have Ky:(m.kind == 1)=true:=by simp [hk]
 have Kz:(m.kind == 3)=false:=by simp [hk]
 have Va:(m.kind == 4)=false:=by simp [hk]
 have Hf:=zAa w (.cells (mN m A m.log.length c) 99);have Hc:HrS w (w.alloc (.cells (mN m A m.log.length c) 99)) base g w.heap.size r lu hv wv gv nv m A c (.slice none 0 0) [] []:=⟨hR.below Hf,Blk.new _ _ _,hl.keep (Hf.mono hR.base_le),OwnMs.nil_,Hf.mono hR.base_le⟩;obtain ⟨E0,z0,a,c1,b,c2,d,c3,e,c4,-,-,rfl,rfl,rfl,rfl,rfl,-⟩:=Hc.forms h3;have H3:=mA h3;have HH:=mA ((zUo r m Kv).symm.trans hh);have Kj:=hl.len;unfold R47 at Kj;have Ki:=mA (show 0+m.log.length<=maxLen/\(0+m.log.length)*16<=140737488355328 from ⟨by unfold maxLen;omega,by omega⟩);clear hR h3 hl hk hh;go_enter Tryz.func72,Tryz.ntmps72
 go_upto_region 3 with fail
 obtain ⟨W0,Kk⟩:=mJ (w.alloc (.cells (mN m A m.log.length c) 99));obtain ⟨gm,Kl⟩:=mK (w.heap.size);rw [<- Kk,Kl] at Hc;rw [<- Kk,Kl];have HS:=mA Hc;clear Kk Kl Hc Hf;obtain ⟨S,Hb⟩:∃ S:World->Prop,S=fun w'=>Below W0.heap.size W0 w':=⟨_,rfl⟩
 have Hd:S W0.drew:=by rw [Hb];exact (mG _ _).drew
 refine wp_region_held (S:=S) (by kernel_rfl) ?_;change wpAnyH _ _ _ _ _ _ _ _ W0.drew;refine tkHs [0,1,2,3,4,5,6,7,8,9,10,11,12,13,14,15,16] (by kernel_rfl) (fun _ _ _ _ _ h=>h) Hd ?_;iterate 17
  first
  | (refine tkc (v:=?_) rfl (Or.inl ⟨by rfl,?_⟩) ?_;rotate_left;(intro wv Ha;rw [Hb] at Ha;obtain ⟨q0,q1,q2,q3,q4,q5,q6,q7,q8,q9⟩:=cz10 (HS.out.rw_.rb.same Ha);obtain ⟨p0,p1,p2,p3,p4,p5,p6,p7⟩:=cz8 (HS.out.mb.same Ha);skip;go_simp;with_reducible rfl);(try simp only [Act.put,zp1,zp2,zp3]))
  | (refine tkc (v:=undef) rfl (Or.inr ⟨by rfl,rfl⟩) ?_;(try simp only [Act.put,zp1,zp2,zp3]))
 refine tkz ?_;refine wpAnyH_done (by kernel_rfl) ?_ _;change Exit.then _ _ _ _ W0.drew;obtain ⟨W1,Hs⟩:=mJ (W0.drew);have Hz:Below W0.heap.size W0 W1:=by rw [Hs];exact (mG _ _).drew
 rw [<- Hs];have Ht:=HS.out.below Hz;clear Hs Hd Hb;have HS:=mA Ht;obtain ⟨p0,-⟩:=cz2 Ht.mb;clear Ht Hz;go_upto_region 15 with fail
 clear p0;obtain ⟨bq,Ko⟩:∃ b:Bool,decide (r.kept.view < m.view\/r.kept.calm=false)=b:=⟨_,rfl⟩;have Ka:=mA Ko;clear Ko;go_cut [119] from 106 to 118 (fun bv wx=>bv=.bool bq/\wx=W1.drew)
 case first =>
  by_cases hA:r.kept.view < m.view
  ·have HE:=mA (show true=bq by rw [<- Ka.out];simp [hA]);obtain ⟨S,Hb⟩:∃ S:World->Prop,S=fun w'=>Below W1.heap.size W1 w':=⟨_,rfl⟩
   have Hd:S W1.drew:=by rw [Hb];exact (mG _ _).drew
   refine wp_region_held (S:=S) (by kernel_rfl) ?_;change wpAnyH _ _ _ _ _ _ _ _ W1.drew;refine tkHs [0,1,2,3,4,5,6,7,8,9,10,11,12,13] (by kernel_rfl) (fun _ _ _ _ _ h=>h) Hd ?_;iterate 14
    first
    | (refine tkc (v:=?_) rfl (Or.inl ⟨by rfl,?_⟩) ?_;rotate_left;(intro wv Ha;rw [Hb] at Ha;obtain ⟨q0,q1,q2,q3,q4,q5,q6,q7,q8,q9⟩:=cz10 (HS.out.rw_.rb.same Ha);obtain ⟨p0,p1,p2,p3,p4,p5,p6,p7⟩:=cz8 (HS.out.mb.same Ha);skip;go_simp;with_reducible rfl);(try simp only [Act.put,zp1,zp2,zp3]))
    | (refine tkc (v:=undef) rfl (Or.inr ⟨by rfl,rfl⟩) ?_;(try simp only [Act.put,zp1,zp2,zp3]))
   exact zR4
  by_cases hB:r.kept.calm=false
  ·have HE:=mA (show true=bq by rw [<- Ka.out];simp [hB]);obtain ⟨S,Hb⟩:∃ S:World->Prop,S=fun w'=>Below W1.heap.size W1 w':=⟨_,rfl⟩
   have Hd:S W1.drew:=by rw [Hb];exact (mG _ _).drew
   refine wp_region_held (S:=S) (by kernel_rfl) ?_;change wpAnyH _ _ _ _ _ _ _ _ W1.drew;refine tkHs [0,1,2,3,4,5,6,7,8,9,10,11,12,13] (by kernel_rfl) (fun _ _ _ _ _ h=>h) Hd ?_;iterate 14
    first
    | (refine tkc (v:=?_) rfl (Or.inl ⟨by rfl,?_⟩) ?_;rotate_left;(intro wv Ha;rw [Hb] at Ha;obtain ⟨q0,q1,q2,q3,q4,q5,q6,q7,q8,q9⟩:=cz10 (HS.out.rw_.rb.same Ha);obtain ⟨p0,p1,p2,p3,p4,p5,p6,p7⟩:=cz8 (HS.out.mb.same Ha);(rw [hB] at q3);go_simp;with_reducible rfl);(try simp only [Act.put,zp1,zp2,zp3]))
    | (refine tkc (v:=undef) rfl (Or.inr ⟨by rfl,rfl⟩) ?_;(try simp only [Act.put,zp1,zp2,zp3]))
   exact zR4
  have HE:=mA (show false=bq by rw [<- Ka.out];simp [hA,hB]);have Kw:r.kept.calm=true:=by simpa using hB
  clear hB;obtain ⟨S,Hb⟩:∃ S:World->Prop,S=fun w'=>Below W1.heap.size W1 w':=⟨_,rfl⟩
  have Hd:S W1.drew:=by rw [Hb];exact (mG _ _).drew
  refine wp_region_held (S:=S) (by kernel_rfl) ?_;change wpAnyH _ _ _ _ _ _ _ _ W1.drew;refine tkHs [0,1,2,3,4,5,6,7,8,9,10,11,12,13] (by kernel_rfl) (fun _ _ _ _ _ h=>h) Hd ?_;iterate 14
   first
   | (refine tkc (v:=?_) rfl (Or.inl ⟨by rfl,?_⟩) ?_;rotate_left;(intro wv Ha;rw [Hb] at Ha;obtain ⟨q0,q1,q2,q3,q4,q5,q6,q7,q8,q9⟩:=cz10 (HS.out.rw_.rb.same Ha);obtain ⟨p0,p1,p2,p3,p4,p5,p6,p7⟩:=cz8 (HS.out.mb.same Ha);(rw [Kw] at q3);go_simp;with_reducible rfl);(try simp only [Act.put,zp1,zp2,zp3]))
   | (refine tkc (v:=undef) rfl (Or.inr ⟨by rfl,rfl⟩) ?_;(try simp only [Act.put,zp1,zp2,zp3]))
  exact zR4
 case rest =>
 obtain ⟨rfl,Hn⟩:=hcut;rw [Hn];clear Hn;have HS:=mA (HS.out.below (mG _ _).drew);obtain ⟨W2,Kp⟩:=mJ (W1.drew);rw [<- Kp] at HS ⊢;clear Kp;cases bq with
 | true =>
   have Kb:r.kept.view < m.view\/r.kept.calm=false:=of_decide_eq_true Ka.out;obtain ⟨com,Hg⟩:=mK ((if (m.log.length:Int) < r.kept.commit then (m.log.length:Int) else r.kept.commit));have Kc:=mA (show lead1 r m=Scu.fresh { r with kept:=⟨m.view,m.view,true,m.log,com⟩ } by unfold lead1;rw [if_pos Kb,Hg]);have He:=mA Hg;clear Kb Hg;go_upto_if 119 with fail
   go_cut [7] from 120 to 159 (fun cv wx=>∃ lu hv wv gv nv,HrS w wx base g gm (lead1 r m) lu hv wv gv nv m A c (.slice none 0 0) [] [])
   case first =>
    obtain ⟨-,-,-,-,-,q5,-⟩:=cz7 HS.out.rw_.rb;obtain ⟨-,-,-,-,-,-,-,p7⟩:=cz8 HS.out.mb;go_upto_if 128 with fail
    go_cut [7] from 128 to 131 (fun cv wx=>cv=.int .i64 com/\wx=W2)
    case first =>
     by_cases hlc:(m.log.length:Int) < r.kept.commit
     ·have he:=He.out;rw [if_pos hlc] at he;exact zQ4
     have he:=He.out;rw [if_neg hlc] at he;exact zQ4
    case rest =>
    obtain ⟨rfl,Hn⟩:=hcut;rw [Hn];clear Hn q5 p7;go_upto_region 19 with fail
    have Km:=mA (zOd (HS.out.ml.is HS.out.rw_.base_le) 1);obtain ⟨S,Hb⟩:∃ S:World->Prop,S=fun w'=>Below W2.heap.size W2 w':=⟨_,rfl⟩
    have Hd:S W2.drew:=by rw [Hb];exact (mG _ _).drew
    refine zDn S 11 (by kernel_rfl) (fun Hx=>?_);change wpAnyE _ _ _ _ _ _ _ _ _ W2.drew;refine tkEs 16 [0,1,2,3,4,5,6,8] (by kernel_rfl) (fun _ _ _ _ _ h=>h) Hx Hd ?_;iterate 8
     first
     | (refine tkc (v:=?_) rfl (Or.inl ⟨by rfl,?_⟩) ?_;rotate_left;(intro wv Ha;rw [Hb] at Ha;obtain ⟨q0,q1,q2,q3,q4,q5,q6,q7,q8,q9⟩:=cz10 (HS.out.rw_.rb.same Ha);obtain ⟨p0,p1,p2,p3,p4,p5,p6,p7⟩:=cz8 (HS.out.mb.same Ha);skip;go_simp;with_reducible rfl);(try simp only [Act.put,zp1,zp2,zp3]))
     | (refine tkc (v:=undef) rfl (Or.inr ⟨by rfl,rfl⟩) ?_;(try simp only [Act.put,zp1,zp2,zp3]))
    refine tkz (fun Hx=>?_);refine alE 7 (by kernel_rfl) (wpOp_step (o:=_) rfl fun KA Hj=>?_);rw [if_pos (by rfl)];refine zCi _ (.const (.slice none 0 0)) (.tmp 138) 39 rfl zBl W2.heap.size _ 0 [] rfl (World.ownsRow_nil _ _ _ _) (.slice A m.log.length c) m.log.length (m.log.map Value.string) rfl Km.out (zBf _) Ki.out.1 Ki.out.2 (mC _) ?_;intro v4 x4 h4 Kd _;have Hy:Below W2.heap.size W2 x4:=((mG W2.heap.size W2).drew).grown Kd (mC _) (fun q hq=>by cases hq);have h4:x4.ownsRow W2.heap.size 9 1 v4 m.log.length (m.log.map Value.string):=by simpa only [Nat.zero_add,List.nil_append] using h4
    obtain ⟨Au,cu,rfl,_,_,_,_⟩:=zAi h4;have Ke:=mA (show OwnStrs x4 base (.slice Au m.log.length cu) m.log/\Below W2.heap.size W2 x4 from ⟨OwnStrs.base_ ⟨h4,HS.out.ml.len,HS.out.ml.each⟩ HS.out.rw_.base_le,Hy⟩);clear h4 Kd Hy;have Hh:S x4:=by rw [Hb];exact Ke.out.2
    refine Hj _ _ ⟨.inr Hh,?_⟩;have Hx:=Hx.set (i:=7) (by rw [<- List.contains_iff_mem];kernel_rfl);refine puT ?_;clear Hj Hd;refine tkEs 16 [9,10] (by kernel_rfl) (fun _ _ _ _ _ h=>h) Hx Hh ?_;iterate 2
     first
     | (refine tkc (v:=?_) rfl (Or.inl ⟨by rfl,?_⟩) ?_;rotate_left;(intro wv Ha;rw [Hb] at Ha;obtain ⟨q0,q1,q2,q3,q4,q5,q6,q7,q8,q9⟩:=cz10 (HS.out.rw_.rb.same Ha);obtain ⟨p0,p1,p2,p3,p4,p5,p6,p7⟩:=cz8 (HS.out.mb.same Ha);skip;go_simp;with_reducible rfl);(try simp only [Act.put,zp1,zp2,zp3]))
     | (refine tkc (v:=undef) rfl (Or.inr ⟨by rfl,rfl⟩) ?_;(try simp only [Act.put,zp1,zp2,zp3]))
    refine tkz (fun Hx=>?_);refine alE 11 (by kernel_rfl) (wpOp_step (o:=_) rfl fun KB Kq=>?_);rw [if_pos (by rfl)];have Hp:=mA (HS.out.below Ke.out.2);refine wp_store_mid 42 (.tmp 142) (.tmp 141) rfl g 1 #[.int .i64 m.view,.int .i64 m.view,.bool true,.slice Au m.log.length cu,.int .i64 com] rfl rfl (zKs (n:=10) (zFv Hp.out.rw_.rb) 1 5 (by decide)) (by kernel_rfl) zGd ?_;obtain ⟨Kr,Ks⟩:=Hp.out.rw_.set_kept (k:=⟨m.view,m.view,true,m.log,com⟩) Ke.out.1;have Kt:Same [9,99] 0 x4 (x4.setCells g 1 [.int .i64 m.view,.int .i64 m.view,.bool true,.slice Au m.log.length cu,.int .i64 com]):=Same.sets _ 1 _ _ Hp.out.rw_.rb (by decide);have Hc:=Hp.out.upd Kr Kt Ks;obtain ⟨W5,Kn⟩:=mJ (x4.setCells g 1 [.int .i64 m.view,.int .i64 m.view,.bool true,.slice Au m.log.length cu,.int .i64 com]);change HrS _ (x4.setCells g 1 [.int .i64 m.view,.int .i64 m.view,.bool true,.slice Au m.log.length cu,.int .i64 com]) _ _ _ _ _ _ _ _ _ _ _ _ _ _ _ at Hc;rw [<- Kn] at Hc;refine Kq _ _ ⟨.inl rfl,zDm (by kernel_rfl) ?_ _⟩;refine puT ?_;change Exit.then _ _ _ _ (x4.setCells g 1 [.int .i64 m.view,.int .i64 m.view,.bool true,.slice Au m.log.length cu,.int .i64 com]);rw [<- Kn];have Kx:=mA Hc;clear Kn Hc Kt Kr Ks Hh Hb Kq;go_wp2_with fail
    refine (zOe Kx.out).mono ?_;rintro e w6 ⟨rfl,Hc⟩;have HE:=mA Hc;clear Hc;go_wp2_with fail
    go_meet
    rw [Kc.out];exact HE.out
   case rest =>
   obtain ⟨lu,hv,wv,gv,nv,Hc⟩:=hcut;obtain ⟨r1,Hk⟩:=mK (lead1 r m);have Hu:=zPf r m;have Hv:=zJq m H3.out;have hh:=HH.out;rw [Hk] at Hc Hu Hv hh;obtain ⟨E0,z0,a,c1,b,c2,d,c3,e,c4,-,-,rfl,rfl,rfl,rfl,rfl,-⟩:=Hc.forms Hv;obtain ⟨W6,Kf⟩:=mJ (wc);rw [<- Kf] at Hc ⊢;have HS:=mA Hc;have HM:=mA Hu;have Kg:=mA hh;obtain ⟨-,-,-,-,q4,q5⟩:=cz6 Hc.rw_.rb;obtain ⟨-,-,-,-,-,p5,-⟩:=cz7 Hc.mb;clear Kf Hc Hu Hv hh Hk HH;obtain ⟨com,Hg⟩:=mK ((if (r1.kept.log.length:Int) < m.commit then (r1.kept.log.length:Int) else m.commit));have Hq:com=min m.commit (r1.kept.log.length:Int):=by rw [<- Hg];split <;> omega
   have He:=mA (mB Hg Hq);clear Hg Hq;go_upto_if 168 with fail
   go_cut [8] from 168 to 173 (fun cv wx=>cv=.int .i64 com/\wx=W6)
   case first =>
    exact zT4
   case rest =>
   exact zP4
 | false =>
   have Kb:¬ (r.kept.view < m.view\/r.kept.calm=false):=of_decide_eq_false Ka.out;have Ku:=mA Kb;clear Kb;go_upto_if 119 with fail
   go_cut [7] from 120 to 159 (fun cv wx=>∃ lu hv wv gv nv,HrS w wx base g gm (lead1 r m) lu hv wv gv nv m A c (.slice none 0 0) [] [])
   case first =>
    go_upto_region 21 with fail
    by_cases hL:(r.kept.log.length:Int) < (m.log.length:Int)
    ·have Kc:=mA (show lead1 r m = { r with kept:={ r.kept with log:=m.log } } by unfold lead1;rw [if_neg Ku.out,if_pos (by omega)]);obtain ⟨S,Hb⟩:∃ S:World->Prop,S=fun w'=>Below W2.heap.size W2 w':=⟨_,rfl⟩
     have Hd:S W2.drew:=by rw [Hb];exact (mG _ _).drew
     refine wp_region_held (S:=S) (by kernel_rfl) ?_;change wpAnyH _ _ _ _ _ _ _ _ W2.drew;refine tkHs [0,1,2,3,4,5,6,7,8] (by kernel_rfl) (fun _ _ _ _ _ h=>h) Hd ?_;iterate 9
      first
      | (refine tkc (v:=?_) rfl (Or.inl ⟨by rfl,?_⟩) ?_;rotate_left;(intro wv Ha;rw [Hb] at Ha;obtain ⟨q0,q1,q2,q3,q4,q5,q6,q7,q8,q9⟩:=cz10 (HS.out.rw_.rb.same Ha);obtain ⟨p0,p1,p2,p3,p4,p5,p6,p7⟩:=cz8 (HS.out.mb.same Ha);skip;go_simp;with_reducible rfl);(try simp only [Act.put,zp1,zp2,zp3]))
      | (refine tkc (v:=undef) rfl (Or.inr ⟨by rfl,rfl⟩) ?_;(try simp only [Act.put,zp1,zp2,zp3]))
     refine tkz ?_;refine wpAnyH_done (by kernel_rfl) ?_ _;change Exit.then _ _ _ _ W2.drew;obtain ⟨W3,Hs⟩:=mJ (W2.drew);have Hz:Below W2.heap.size W2 W3:=by rw [Hs];exact (mG _ _).drew
     rw [<- Hs];have Ht:=HS.out.below Hz;clear Hs Hd Hb;have HS:=mA Ht;obtain ⟨-,-,-,-,-,-,-,p7⟩:=cz8 Ht.mb;have Km:=mA (zOd (HS.out.ml.is HS.out.rw_.base_le) 0);clear Ht Hz;go_wp2_with (at_builtin;refine zAz _ rfl (.const (.slice none 0 0)) (.tmp 156) 39 rfl zBl W3.heap.size _ 0 [] rfl (World.ownsRow_nil _ _ _ _) (.slice A m.log.length c) m.log.length (m.log.map Value.string) rfl Km.out (zBf _) Ki.out.1 Ki.out.2 (mC _) ?_)
     intro v4 x4 h4 Kd _;have Hy:Below W3.heap.size W3 x4:=(mG W3.heap.size W3).grown Kd (mC _) (fun q hq=>by cases hq);have h4:x4.ownsRow W3.heap.size 9 1 v4 m.log.length (m.log.map Value.string):=by simpa only [Nat.zero_add,List.nil_append] using h4
     obtain ⟨Au,cu,rfl,_,_,_,_⟩:=zAi h4;have Ke:=mA (show OwnStrs x4 base (.slice Au m.log.length cu) m.log/\Below W3.heap.size W3 x4 from ⟨OwnStrs.base_ ⟨h4,HS.out.ml.len,HS.out.ml.each⟩ HS.out.rw_.base_le,Hy⟩);have Hp:=mA (HS.out.below Hy);obtain ⟨-,-,-,-,q4,-⟩:=cz6 Hp.out.rw_.rb;have qz:=Hp.out.rw_.rb.frozen 4;have HN:=mA (Hp.out.upd (Hp.out.rw_.set_log Ke.out.1) (Same.set_ Hp.out.rw_.rb (mE _) (by decide) 4 _) (Hp.out.rw_.rcell 4 _).2);clear h4 Kd Hy p7;exact zS4
    have Kc:=mA (show lead1 r m=r by unfold lead1;rw [if_neg Ku.out,if_neg (by omega)]);obtain ⟨S,Hb⟩:∃ S:World->Prop,S=fun w'=>Below W2.heap.size W2 w':=⟨_,rfl⟩
    have Hd:S W2.drew:=by rw [Hb];exact (mG _ _).drew
    refine wp_region_held (S:=S) (by kernel_rfl) ?_;change wpAnyH _ _ _ _ _ _ _ _ W2.drew;refine tkHs [0,1,2,3,4,5,6,7,8] (by kernel_rfl) (fun _ _ _ _ _ h=>h) Hd ?_;iterate 9
     first
     | (refine tkc (v:=?_) rfl (Or.inl ⟨by rfl,?_⟩) ?_;rotate_left;(intro wv Ha;rw [Hb] at Ha;obtain ⟨q0,q1,q2,q3,q4,q5,q6,q7,q8,q9⟩:=cz10 (HS.out.rw_.rb.same Ha);obtain ⟨p0,p1,p2,p3,p4,p5,p6,p7⟩:=cz8 (HS.out.mb.same Ha);skip;go_simp;with_reducible rfl);(try simp only [Act.put,zp1,zp2,zp3]))
     | (refine tkc (v:=undef) rfl (Or.inr ⟨by rfl,rfl⟩) ?_;(try simp only [Act.put,zp1,zp2,zp3]))
    refine tkz ?_;refine wpAnyH_done (by kernel_rfl) ?_ _;change Exit.then _ _ _ _ W2.drew;clear Hd Hb;have HN:=mA (HS.out.below (mG _ _).drew);exact zS4
   case rest =>
   obtain ⟨lu,hv,wv,gv,nv,Hc⟩:=hcut;obtain ⟨r1,Hk⟩:=mK (lead1 r m);have Hu:=zPf r m;have Hv:=zJq m H3.out;have hh:=HH.out;rw [Hk] at Hc Hu Hv hh;obtain ⟨E0,z0,a,c1,b,c2,d,c3,e,c4,-,-,rfl,rfl,rfl,rfl,rfl,-⟩:=Hc.forms Hv;obtain ⟨W6,Kf⟩:=mJ (wc);rw [<- Kf] at Hc ⊢;have HS:=mA Hc;have HM:=mA Hu;have Kg:=mA hh;obtain ⟨-,-,-,-,q4,q5⟩:=cz6 Hc.rw_.rb;obtain ⟨-,-,-,-,-,p5,-⟩:=cz7 Hc.mb;clear Kf Hc Hu Hv hh Hk HH;obtain ⟨com,Hg⟩:=mK ((if (r1.kept.log.length:Int) < m.commit then (r1.kept.log.length:Int) else m.commit));have Hq:com=min m.commit (r1.kept.log.length:Int):=by rw [<- Hg];split <;> omega
   have He:=mA (mB Hg Hq);clear Hg Hq;go_upto_if 168 with fail
   go_cut [8] from 168 to 173 (fun cv wx=>cv=.int .i64 com/\wx=W6)
   case first =>
    exact zT4
   case rest =>
   exact zP4
end Go.Proofs.YtlngfbngnnepiaaGreat
