/- Part 34: words and walks under the laws of the whole. -/
import Derived.Test.YtlngfbngnnepiaaGreatZZ33
set_option linter.unusedVariables false
set_option linter.unusedSimpArgs false
set_option maxHeartbeats 4000000
set_option maxRecDepth 100000
namespace Go.Proofs.YtlngfbngnnepiaaGreat
open Go.RowKit
theorem zB5 {P:Prop} (h:P:=by
 refine tkz ?_;refine wpAnyH_done (by kernel_rfl) ?_ _;change Exit.then _ _ _ _ W0.drew;clear Hd Hc;go_wp2_with fail
 go_meet
 exact ⟨by rw [HE.out],rfl⟩):P:=h
theorem zXs (g base:Nat) (r:Scu.Replica) (lu hv wv gv nv:Value) (m:Scu.Message) (A:Option Addr) (c:Nat) (w:World) (hR:RWk w base g r lu hv wv gv nv) (h3:Rep3 r) (hN:∀ k ∈ r.gives,0<=k.normal) (Vm:0<=r.kept.normal) (Kd:0<=m.normal) (hl:LowStrs w base (.slice A m.log.length c) m.log) (hk:m.kind=4) (Gn:0<=m.from_) (Go:m.from_ < 3)
 (rr:Scu.Replica) (ms:List Scu.Message) (hh:Scu.hearGive r m=(rr,ms)) :
 Calls Tryz.prog 72 #[.pointer (some ⟨g,0,none⟩),.agg #[.int .i64 m.kind,.int .i64 m.from_,.int .i64 m.tq,.int .i64 m.view,.int .i64 m.normal,.int .i64 m.commit,.int .i64 m.n,.slice A m.log.length c]] w fun e w'=>(∃ ov css,e=.returned ov/\OwnMs w' base ov ms css)/\RWkE w' base g rr/\Below base w w':=by
 have Nd:(m.kind == 1)=false:=by simp [hk]
 have Ne:(m.kind == 2)=false:=by simp [hk]
 have Nf:(m.kind == 3)=false:=by simp [hk]
 have Ng:(m.kind == 4)=true:=by simp [hk]
 obtain ⟨fn,Vn⟩:∃ fn:Nat,m.from_=fn:=⟨m.from_.toNat,by omega⟩;have Va:fn < 3:=by omega
 have Ku:=zAa w (.cells (mN m A m.log.length c) 99);have Ha:HrS w (w.alloc (.cells (mN m A m.log.length c) 99)) base g w.heap.size r lu hv wv gv nv m A c (.slice none 0 0) [] []:=⟨hR.below Ku,Blk.new _ _ _,hl.keep (Ku.mono hR.base_le),OwnMs.nil_,Ku.mono hR.base_le⟩;obtain ⟨E0,z0,a,c1,b,c2,d,c3,e,c4,-,-,rfl,rfl,rfl,rfl,rfl,-⟩:=Ha.forms h3;have H3:=mA h3;have HH:=mA hh;have Vb:=mA (mB hN (mB Vm Kd));have Kv:=mA Vn;have Vc:=hl.len;unfold R47 at Vc;have Vo:=mA (show 0+m.log.length<=maxLen/\(0+m.log.length)*16<=140737488355328 from ⟨by unfold maxLen;omega,by omega⟩);clear hR h3 hl hk hh hN Vm Kd Gn Go Vn;go_enter Tryz.func72,Tryz.ntmps72
 go_upto_region 3 with fail
 obtain ⟨W0,Vd⟩:=mJ (w.alloc (.cells (mN m A m.log.length c) 99));obtain ⟨gm,Ve⟩:=mK (w.heap.size);rw [<- Vd,Ve] at Ha;rw [<- Vd,Ve];have HS:=mA Ha;clear Vd Ve Ha Ku;obtain ⟨bq,Vp⟩:∃ b:Bool,decide (r.kept.view < m.view)=b:=⟨_,rfl⟩;have Kw:=mA Vp;clear Vp;go_cut [31] from 15 to 30 (fun bv wx=>bv=.bool bq/\wx=W0.drew)
 case first =>
  by_cases hA:r.kept.view < m.view
  ·have HE:=mA (show true=bq by rw [<- Kw.out];simp [hA]);obtain ⟨S,Hc⟩:∃ S:World->Prop,S=fun w'=>Below W0.heap.size W0 w':=⟨_,rfl⟩
   have Hd:S W0.drew:=by rw [Hc];exact (mG _ _).drew
   refine wp_region_held (S:=S) (by kernel_rfl) ?_;change wpAnyH _ _ _ _ _ _ _ _ W0.drew;refine tkHs [0,1,2,3,4,5,6,7,8,9,10,11,12,13,14,15,16] (by kernel_rfl) (fun _ _ _ _ _ h=>h) Hd ?_;iterate 17
    first
    | (refine tkc (v:=?_) rfl (Or.inl ⟨by rfl,?_⟩) ?_;rotate_left;(intro wv Hb;rw [Hc] at Hb;obtain ⟨q0,q1,q2,q3,q4,q5,q6,q7,q8,q9⟩:=cz10 (HS.out.rw_.rb.same Hb);obtain ⟨p0,p1,p2,p3,p4,p5,p6,p7⟩:=cz8 (HS.out.mb.same Hb);skip;go_simp;with_reducible rfl);(try simp only [Act.put,zp1,zp2,zp3]))
    | (refine tkc (v:=undef) rfl (Or.inr ⟨by rfl,rfl⟩) ?_;(try simp only [Act.put,zp1,zp2,zp3]))
   exact zB5
  have HE:=mA (show false=bq by rw [<- Kw.out];simp [hA]);obtain ⟨S,Hc⟩:∃ S:World->Prop,S=fun w'=>Below W0.heap.size W0 w':=⟨_,rfl⟩
  have Hd:S W0.drew:=by rw [Hc];exact (mG _ _).drew
  refine wp_region_held (S:=S) (by kernel_rfl) ?_;change wpAnyH _ _ _ _ _ _ _ _ W0.drew;refine tkHs [0,1,2,3,4,5,6,7,8,9,10,11,12,13,14,15,16] (by kernel_rfl) (fun _ _ _ _ _ h=>h) Hd ?_;iterate 17
   first
   | (refine tkc (v:=?_) rfl (Or.inl ⟨by rfl,?_⟩) ?_;rotate_left;(intro wv Hb;rw [Hc] at Hb;obtain ⟨q0,q1,q2,q3,q4,q5,q6,q7,q8,q9⟩:=cz10 (HS.out.rw_.rb.same Hb);obtain ⟨p0,p1,p2,p3,p4,p5,p6,p7⟩:=cz8 (HS.out.mb.same Hb);skip;go_simp;with_reducible rfl);(try simp only [Act.put,zp1,zp2,zp3]))
   | (refine tkc (v:=undef) rfl (Or.inr ⟨by rfl,rfl⟩) ?_;(try simp only [Act.put,zp1,zp2,zp3]))
  exact zB5
 case rest =>
 obtain ⟨rfl,Ke⟩:=hcut;rw [Ke];clear Ke;have HS:=mA (HS.out.below (mG _ _).drew);obtain ⟨W1,Vq⟩:=mJ (W0.drew);rw [<- Vq] at HS ⊢;clear Vq;obtain ⟨ar,am,ha⟩:∃ ar am,Scu.wantIf r m.view=(ar,am):=⟨_,_,rfl⟩;have HA:=mA ha;clear ha;go_upto_if 31 with fail
 go_cut [5] from 31 to 35 (fun ov wx=>∃ lu hv wv gv nv css,HrS w wx base g gm ar lu hv wv gv nv m A c ov am css)
 case first =>
  cases bq with
  | true =>
    have Kf:r.kept.view < m.view:=of_decide_eq_true Kw.out;have HW:=mA (show Scu.want r m.view=(ar,am) by rw [<- HA.out];unfold Scu.wantIf;rw [if_pos Kf]);obtain ⟨-,-,-,p3,-⟩:=cz5 HS.out.mb;clear Kf;go_wp2_with fail
    refine (zLl g r _ _ _ _ _ m.view base W1 HS.out.rw_.rb HS.out.rw_.own.own.log HS.out.rw_.lr H3.out.2.2.2.2.1 H3.out.2.2.2.2.2 ar am HW.out).mono ?_;rintro en x1 ⟨⟨Ao,co,css,Gp,wu',gu',nu',rfl,hB,He,Vr⟩,h3,Vs⟩;have HN:=mA (show HrS w x1 base g gm ar _ Gp wu' gu' nu' m A c (.slice Ao am.length co) am css from ⟨⟨hB,He,HS.out.rw_.lr⟩,zAc HS.out.mb Vs (by simp),HS.out.ml.keep h3,Vr,HS.out.low.trans h3⟩);clear hB He Vr h3 Vs;go_wp2_with fail
    go_meet
    exact ⟨_,_,_,_,_,_,HN.out⟩
  | false =>
    have Kf:¬ r.kept.view < m.view:=of_decide_eq_false Kw.out;have hw:Scu.wantIf r m.view=(r,[]):=by unfold Scu.wantIf;rw [if_neg Kf]
    have HW:=mA (Prod.mk.inj (hw.symm.trans HA.out));clear Kf hw;go_wp2_with fail
    go_meet
    rw [<- HW.out.1,<- HW.out.2];exact ⟨_,_,_,_,_,_,HS.out⟩
 case rest =>
 obtain ⟨lu,hv,wv,gv,nv,css,Ha⟩:=hcut;have Vf:Rep3 ar:=by have:=zKt m.view H3.out;rwa [HA.out] at this
 have Vt:ar.me=r.me:=by have:=zSh r m.view;rwa [HA.out] at this
 obtain ⟨E0,z0,a,c1,b,c2,d,c3,e,c4,Ao,co,rfl,rfl,rfl,rfl,rfl,rfl⟩:=Ha.forms Vf;obtain ⟨W2,Vu⟩:=mJ (wc);rw [<- Vu] at Ha ⊢;have HS:=mA Ha;have Hf:=mA Vf;have Nh:=mA Vt;clear Vu Ha Vf Vt;obtain ⟨p0,-⟩:=cz2 HS.out.mb;obtain ⟨-,-,-,q3,-⟩:=cz5 HS.out.rw_.rb;by_cases Kg:ar.kept.calm=true
 ·have Vv:Scu.hearGive r m=(ar,am):=by unfold Scu.hearGive;rw [HA.out];simp only [Kg,↓reduceIte]
  have HE:=mA (Prod.mk.inj (Vv.symm.trans HH.out));rw [Kg] at q3;clear Vv Kg;go_upto_if 41 with fail
  go_wp2
  go_ret
  rw [<- HE.out.1,<- HE.out.2];first | exact ⟨⟨_,rfl,_,HS.out.out⟩,HS.out.rw_.e,HS.out.low⟩ | exact ⟨⟨_,_,rfl,HS.out.out⟩,HS.out.rw_.e,HS.out.low⟩
 have Vg:ar.kept.calm=false:=by simpa using Kg
 have Gq:=mA Vg;rw [Vg] at q3;clear Kg Vg;go_upto_if 41 with fail
 go_upto_region 8 with fail
 clear p0 q3;obtain ⟨mn,Kd⟩:∃ n:Nat,ar.me=n:=⟨ar.me.toNat,by have:=Hf.out.2.2.2.2.1;omega⟩;have Kh:mn < 3:=by have:=Hf.out.2.2.2.2.2;omega
 have Gr:(0:Int)<=(mn:Int):=by omega
 have Gs:(mn:Int) < 3:=by omega
 have Gt:(0:Int)<=(fn:Int):=by omega
 have Gu:(fn:Int) < 3:=by omega
 have Hu:=mA Kd;clear Kd;obtain ⟨Hs,⟨cur,hB⟩,_,Gv,Vw⟩:=ones3' HS.out.rw_.own.own.given Hf.out.2.2.2.1;obtain ⟨gq,Vh⟩:∃ b,ar.given[mn]? = some b:=⟨_,mH (by rw [Hf.out.2.2.2.1];exact Kh)⟩;have dh:W2.cell? ⟨e,mn,none⟩=some (.bool gq):=by rw [Vw _ Kh,List.getElem?_map,Vh];rfl
 have dal:=World.block_lt_of_cell? W2 _ dh;have Vx:ar.given.getD ar.me.toNat false=gq:=by rw [Hu.out,Int.toNat_natCast,mI,Vh];rfl
 have Gw:=mA Vx;have HB:=mA (mB hB Hs);clear Vw Vh Vx hB Hs Gv;obtain ⟨nq,Vy⟩:∃ b:Bool,(!gq)=b:=⟨_,rfl⟩;obtain ⟨r2,Vz⟩:=mK ((if gq=false then Scu.give1 ar ar.me ar.kept else ar));have Hi:=mA (mB Vz Vy);clear Vz Vy;go_cut [53] from 43 to 52 (fun bv wx=>bv=.bool nq/\wx=W2.drew)
 case first =>
  obtain ⟨S,Hc⟩:∃ S:World->Prop,S=fun w'=>Below W2.heap.size W2 w':=⟨_,rfl⟩
  have Hd:S W2.drew:=by rw [Hc];exact (mG _ _).drew
  refine wp_region_held (S:=S) (by kernel_rfl) ?_;change wpAnyH _ _ _ _ _ _ _ _ W2.drew;refine tkHs [0,1,2,3,4,5,6,7,8,9,10] (by kernel_rfl) (fun _ _ _ _ _ h=>h) Hd ?_;iterate 11
   first
   | (refine tkc (v:=?_) rfl (Or.inl ⟨by rfl,?_⟩) ?_;rotate_left;(intro wv Hb;rw [Hc] at Hb;obtain ⟨q0,q1,q2,q3,q4,q5,q6,q7,q8,q9⟩:=cz10 (HS.out.rw_.rb.same Hb);obtain ⟨p0,p1,p2,p3,p4,p5,p6,p7⟩:=cz8 (HS.out.mb.same Hb);(have q10:=cW Hb dal dh;rw [Hu.out] at q0);go_simp;with_reducible rfl);(try simp only [Act.put,zp1,zp2,zp3]))
   | (refine tkc (v:=undef) rfl (Or.inr ⟨by rfl,rfl⟩) ?_;(try simp only [Act.put,zp1,zp2,zp3]))
  refine tkz ?_;refine wpAnyH_done (by kernel_rfl) ?_ _;change Exit.then _ _ _ _ W2.drew;clear Hd Hc;go_wp2_with fail
  go_meet
  exact ⟨by rw [Hi.out.2],rfl⟩
 case rest =>
 obtain ⟨rfl,Ke⟩:=hcut;rw [Ke];clear Ke;have Hp:=(mG W2.heap.size W2).drew;have HS:=mA (HS.out.below Hp);have HB:=mA (mB (HB.out.1.same Hp) HB.out.2);have dh:=cW Hp dal dh;obtain ⟨W3,Ga⟩:=mJ (W2.drew);rw [<- Ga] at HS HB dh ⊢;clear Ga Hp dal;go_upto_if 53 with fail
 go_cut [5] from 53 to 75 (fun ov wx=>ov=.slice Ao am.length co/\∃ lu hv wv gv nv,HrS w wx base g gm r2 lu hv wv gv nv m A c ov am css)
 case first =>
  cases gq with
  | false =>
    obtain rfl:nq=true:=by rw [<- Hi.out.2];rfl
    have Hi:=mA (show r2=Scu.give1 ar ar.me ar.kept by rw [<- Hi.out.1];rfl);go_upto_region 9 with fail
    obtain ⟨S,Hc⟩:∃ S:World->Prop,S=fun w'=>Below W3.heap.size W3 w':=⟨_,rfl⟩
    have Hd:S W3.drew:=by rw [Hc];exact (mG _ _).drew
    refine zDn S 13 (by kernel_rfl) (fun Hg=>?_);change wpAnyE _ _ _ _ _ _ _ _ _ W3.drew;refine tkEs 16 [0,1,2,3,4,5,6,7,8,9,10] (by kernel_rfl) (fun _ _ _ _ _ h=>h) Hg Hd ?_;iterate 11
     first
     | (refine tkc (v:=?_) rfl (Or.inl ⟨by rfl,?_⟩) ?_;rotate_left;(intro wv Hb;rw [Hc] at Hb;obtain ⟨q0,q1,q2,q3,q4,q5,q6,q7,q8,q9⟩:=cz10 (HS.out.rw_.rb.same Hb);obtain ⟨p0,p1,p2,p3,p4,p5,p6,p7⟩:=cz8 (HS.out.mb.same Hb);(rw [Hu.out] at q0);go_simp;with_reducible rfl);(try simp only [Act.put,zp1,zp2,zp3]))
     | (refine tkc (v:=undef) rfl (Or.inr ⟨by rfl,rfl⟩) ?_;(try simp only [Act.put,zp1,zp2,zp3]))
    refine tkz (fun Hg=>?_);refine alE 11 (by kernel_rfl) (wpOp_step (o:=_) rfl fun KA Ki=>?_);go_simp;have Hp:Below W3.heap.size W3 W3.drew:=(mG _ _).drew;have He:=zXq HS.out.rw_ Hp;rw [Hu.out] at He;refine He.mono ?_;rintro en x4 ⟨⟨Au,cu,rfl,Kj⟩,Ht⟩;have Ht:Below W3.heap.size W3 x4:=Hp.trans (Ht.mono Hp.size);have Hv:S x4:=by rw [Hc];exact Ht
    refine Ki _ _ ⟨.inr Hv,?_⟩;have Hg:=Hg.set (i:=11) (by rw [<- List.contains_iff_mem];kernel_rfl);refine puT ?_;have Gb:=mA (mB Kj Ht);clear Ki Hd Kj Ht Hp He;refine tkEs 16 [12] (by kernel_rfl) (fun _ _ _ _ _ h=>h) Hg Hv ?_;iterate 1
     first
     | (refine tkc (v:=?_) rfl (Or.inl ⟨by rfl,?_⟩) ?_;rotate_left;(intro wv Hb;rw [Hc] at Hb;obtain ⟨q0,q1,q2,q3,q4,q5,q6,q7,q8,q9⟩:=cz10 (HS.out.rw_.rb.same Hb);obtain ⟨p0,p1,p2,p3,p4,p5,p6,p7⟩:=cz8 (HS.out.mb.same Hb);(rw [Hu.out] at q0);go_simp;with_reducible rfl);(try simp only [Act.put,zp1,zp2,zp3]))
     | (refine tkc (v:=undef) rfl (Or.inr ⟨by rfl,rfl⟩) ?_;(try simp only [Act.put,zp1,zp2,zp3]))
    refine tkz (fun Hg=>?_);refine alE 13 (by kernel_rfl) (wpOp_step (o:=_) rfl fun KB Kk=>?_);rw [if_pos (by rfl)];have Hq:=mA (HS.out.below Gb.out.2);have Gc:mn < ar.gives.length:=by rw [Hf.out.2.2.1];exact Kh
    refine wp_store_mid 42 (.tmp 66) (.tmp 65) rfl d (mn*5) #[.int .i64 ar.kept.view,.int .i64 ar.kept.normal,.bool false,.slice Au ar.kept.log.length cu,.int .i64 ar.kept.commit] (by go_simp) rfl (zGq Hq.out.rw_ Gc) (by kernel_rfl) zGd ?_;obtain ⟨Kl,Km⟩:=Hq.out.rw_.put_gives (i:=mn) Gc (k:=⟨ar.kept.view,ar.kept.normal,false,ar.kept.log,ar.kept.commit⟩) Gb.out.1.is;obtain ⟨_,Kn⟩:=zJr Hq.out.rw_;have Ko:Same [9,99] 0 x4 (x4.setCells d (mn*5) [.int .i64 ar.kept.view,.int .i64 ar.kept.normal,.bool false,.slice Au ar.kept.log.length cu,.int .i64 ar.kept.commit]):=Same.sets _ _ _ _ Kn (by decide);have Ha:=Hq.out.upd Kl Ko Km;obtain ⟨W5,Hw⟩:=mJ (x4.setCells d (mn*5) [.int .i64 ar.kept.view,.int .i64 ar.kept.normal,.bool false,.slice Au ar.kept.log.length cu,.int .i64 ar.kept.commit]);change HrS _ (x4.setCells d (mn*5) [.int .i64 ar.kept.view,.int .i64 ar.kept.normal,.bool false,.slice Au ar.kept.log.length cu,.int .i64 ar.kept.commit]) _ _ _ _ _ _ _ _ _ _ _ _ _ _ _ at Ha;rw [<- Hw] at Ha;refine Kk _ _ ⟨.inl rfl,zDm (by kernel_rfl) ?_ _⟩;refine puT ?_;change Exit.then _ _ _ _ (x4.setCells d (mn*5) [.int .i64 ar.kept.view,.int .i64 ar.kept.normal,.bool false,.slice Au ar.kept.log.length cu,.int .i64 ar.kept.commit]);rw [<- Hw];obtain ⟨r3,Hn⟩:=mJ (({ ar with gives:=ar.gives.set mn ⟨ar.kept.view,ar.kept.normal,false,ar.kept.log,ar.kept.commit⟩ } : Scu.Replica));change HrS _ _ _ _ _ ({ ar with gives:=ar.gives.set mn ⟨ar.kept.view,ar.kept.normal,false,ar.kept.log,ar.kept.commit⟩ } : Scu.Replica) _ _ _ _ _ _ _ _ _ _ _ at Ha;rw [<- Hn] at Ha;have Hx:=mA Hn;have Hh:=mA Ha;have Hy:r3.given.length=3:=by rw [Hn];exact Hf.out.2.2.2.1
    have Kp:r3.me=mn:=by rw [Hn];exact Hu.out
    have Gx:=mA Kp;clear Hw Ha Ko Kl Km Hv Hc Kk Kn Hn Kp;go_upto_region 10 with fail
    obtain ⟨Hs,⟨cur5,Kq⟩,_,Hj,Hk⟩:=ones3' Hh.out.rw_.own.own.given Hy;have dh5:=Hk _ Kh;obtain ⟨gv5,Hl⟩:∃ b,r3.given[mn]? = some b:=⟨_,mH (by rw [Hy];exact Kh)⟩;rw [List.getElem?_map,Hl] at dh5;change W5.cell? ⟨e,mn,none⟩=some (.bool gv5) at dh5;have fz5:=Hj mn;obtain ⟨q0,q1,q2,q3,q4,q5,q6,q7,q8,q9⟩:=cz10 Hh.out.rw_.rb;obtain ⟨p0,p1,p2,p3,p4,p5,p6,p7⟩:=cz8 Hh.out.mb
    (rw [Gx.out] at q0)
    clear Hk Hj Hy Hl;have Hm:=mA (mB Kq Hs);clear Kq Hs;go_region
    have HN:=mA ((Hh.out.upd (Hh.out.rw_.put_given Hm.out.1 Hm.out.2 mn true).1 (Same.set_ Hm.out.1 (mE _) (by decide) mn _) (Hh.out.rw_.put_given Hm.out.1 Hm.out.2 mn true).2).below (mG _ _).drew);clear dh5 fz5 q0 q1 q2 q3 q4 q5 q6 q7 q8 q9 p0 p1 p2 p3 p4 p5 p6 p7;have Hx:=mA (show r2 = { r3 with given:=r3.given.set mn true } by rw [Hx.out,Hi.out];unfold Scu.give1;rw [show ar.me.toNat=mn by rw [Hu.out];rfl];rfl);go_wp2_with fail
    go_meet
    rw [Hx.out];exact ⟨rfl,_,_,_,_,_,HN.out⟩
  | true =>
    obtain rfl:nq=false:=by rw [<- Hi.out.2];rfl
    have Hi:=mA (show r2=ar by rw [<- Hi.out.1];rfl);go_wp2_with fail
    go_meet
    rw [Hi.out];exact ⟨rfl,_,_,_,_,_,HS.out⟩
 case rest =>
 obtain ⟨rfl,lu,hv,wv,gv,nv,Ha⟩:=hcut;have Ka:Rep3 r2:=by
  rw [<- Hi.out.1];split
  ·exact ⟨Hf.out.1,Hf.out.2.1,by unfold Scu.give1;simp [Hf.out.2.2.1],by unfold Scu.give1;simp [Hf.out.2.2.2.1],Hf.out.2.2.2.2.1,Hf.out.2.2.2.2.2⟩
  exact Hf.out
 clear dh;obtain ⟨E0,z0,a,c1,b,c2,d,c3,e,c4,-,-,rfl,rfl,rfl,rfl,rfl,-⟩:=Ha.forms Ka;obtain ⟨W4,Gd⟩:=mJ (wc);rw [<- Gd] at Ha ⊢;have HS:=mA Ha;have Ho:=mA Ka;have Hz:=mA Va;clear Gd Ha Ka;go_upto_region 11 with fail
 have Gy:=mA (zOd (HS.out.ml.is HS.out.rw_.base_le) 1);obtain ⟨S,Hc⟩:∃ S:World->Prop,S=fun w'=>Below W4.heap.size W4 w':=⟨_,rfl⟩
 have Hd:S W4.drew:=by rw [Hc];exact (mG _ _).drew
 refine zDn S 17 (by kernel_rfl) (fun Hg=>?_);change wpAnyE _ _ _ _ _ _ _ _ _ W4.drew;refine tkEs 16 [0,1,2,3,4,5,6,7,8,9,10,11,12,13] (by kernel_rfl) (fun _ _ _ _ _ h=>h) Hg Hd ?_;iterate 14
  first
  | (refine tkc (v:=?_) rfl (Or.inl ⟨by rfl,?_⟩) ?_;rotate_left;(intro wv Hb;rw [Hc] at Hb;obtain ⟨q0,q1,q2,q3,q4,q5,q6,q7,q8,q9⟩:=cz10 (HS.out.rw_.rb.same Hb);obtain ⟨p0,p1,p2,p3,p4,p5,p6,p7⟩:=cz8 (HS.out.mb.same Hb);(rw [Kv.out] at p1);go_simp;with_reducible rfl);(try simp only [Act.put,zp1,zp2,zp3]))
  | (refine tkc (v:=undef) rfl (Or.inr ⟨by rfl,rfl⟩) ?_;(try simp only [Act.put,zp1,zp2,zp3]))
 refine tkz (fun Hg=>?_);refine alE 14 (by kernel_rfl) (wpOp_step (o:=_) rfl fun KA Ki=>?_);rw [if_pos (by rfl)];refine zCi _ (.const (.slice none 0 0)) (.tmp 89) 39 rfl zBl W4.heap.size _ 0 [] rfl (World.ownsRow_nil _ _ _ _) (.slice A m.log.length c) m.log.length (m.log.map Value.string) rfl Gy.out (zBf _) Vo.out.1 Vo.out.2 (mC _) ?_;intro v4 x4 h4 Ge _;have Ht:Below W4.heap.size W4 x4:=((mG W4.heap.size W4).drew).grown Ge (mC _) (fun q hq=>by cases hq);have h4:x4.ownsRow W4.heap.size 9 1 v4 m.log.length (m.log.map Value.string):=by simpa only [Nat.zero_add,List.nil_append] using h4
 obtain ⟨Au,cu,rfl,_,_,_,_⟩:=zAi h4;have Vi:=mA (show OwnStrs x4 base (.slice Au m.log.length cu) m.log/\Below W4.heap.size W4 x4 from ⟨OwnStrs.base_ ⟨h4,HS.out.ml.len,HS.out.ml.each⟩ HS.out.rw_.base_le,Ht⟩);clear h4 Ge Ht;have Hv:S x4:=by rw [Hc];exact Vi.out.2
 refine Ki _ _ ⟨.inr Hv,?_⟩;have Hg:=Hg.set (i:=14) (by rw [<- List.contains_iff_mem];kernel_rfl);refine puT ?_;clear Ki Hd;refine tkEs 16 [15,16] (by kernel_rfl) (fun _ _ _ _ _ h=>h) Hg Hv ?_;iterate 2
  first
  | (refine tkc (v:=?_) rfl (Or.inl ⟨by rfl,?_⟩) ?_;rotate_left;(intro wv Hb;rw [Hc] at Hb;obtain ⟨q0,q1,q2,q3,q4,q5,q6,q7,q8,q9⟩:=cz10 (HS.out.rw_.rb.same Hb);obtain ⟨p0,p1,p2,p3,p4,p5,p6,p7⟩:=cz8 (HS.out.mb.same Hb);(rw [Kv.out] at p1);go_simp;with_reducible rfl);(try simp only [Act.put,zp1,zp2,zp3]))
  | (refine tkc (v:=undef) rfl (Or.inr ⟨by rfl,rfl⟩) ?_;(try simp only [Act.put,zp1,zp2,zp3]))
 refine tkz (fun Hg=>?_);refine alE 17 (by kernel_rfl) (wpOp_step (o:=_) rfl fun KB Kk=>?_);rw [if_pos (by rfl)];have Hq:=mA (HS.out.below Vi.out.2);have Gf:fn < r2.gives.length:=by rw [Ho.out.2.2.1];exact Hz.out
 refine wp_store_mid 42 (.tmp 92) (.tmp 91) rfl d (fn*5) #[.int .i64 m.view,.int .i64 m.normal,.bool false,.slice Au m.log.length cu,.int .i64 m.commit] (by go_simp) rfl (zGq Hq.out.rw_ Gf) (by kernel_rfl) zGd ?_;obtain ⟨Kl,Km⟩:=Hq.out.rw_.put_gives (i:=fn) Gf (k:=⟨m.view,m.normal,false,m.log,m.commit⟩) Vi.out.1.is;obtain ⟨_,Kn⟩:=zJr Hq.out.rw_;have Ko:Same [9,99] 0 x4 (x4.setCells d (fn*5) [.int .i64 m.view,.int .i64 m.normal,.bool false,.slice Au m.log.length cu,.int .i64 m.commit]):=Same.sets _ _ _ _ Kn (by decide);have Ha:=Hq.out.upd Kl Ko Km;obtain ⟨W5,Hw⟩:=mJ (x4.setCells d (fn*5) [.int .i64 m.view,.int .i64 m.normal,.bool false,.slice Au m.log.length cu,.int .i64 m.commit]);obtain ⟨r3,Hn⟩:=mJ (({ r2 with gives:=r2.gives.set fn ⟨m.view,m.normal,false,m.log,m.commit⟩ } : Scu.Replica));change HrS _ (x4.setCells d (fn*5) [.int .i64 m.view,.int .i64 m.normal,.bool false,.slice Au m.log.length cu,.int .i64 m.commit]) _ _ _ ({ r2 with gives:=r2.gives.set fn ⟨m.view,m.normal,false,m.log,m.commit⟩ } : Scu.Replica) _ _ _ _ _ _ _ _ _ _ _ at Ha;rw [<- Hw,<- Hn] at Ha;refine Kk _ _ ⟨.inl rfl,zDm (by kernel_rfl) ?_ _⟩;refine puT ?_;change Exit.then _ _ _ _ (x4.setCells d (fn*5) [.int .i64 m.view,.int .i64 m.normal,.bool false,.slice Au m.log.length cu,.int .i64 m.commit]);rw [<- Hw];have Hx:=mA Hn;have Hh:=mA Ha;have Hy:r3.given.length=3:=by rw [Hn];exact Ho.out.2.2.2.1
 clear Hw Ha Ko Kl Km Hv Hc Kk Kn Hn;go_upto_region 12 with fail
 obtain ⟨Hs,⟨cur5,Kq⟩,_,Hj,Hk⟩:=ones3' Hh.out.rw_.own.own.given Hy;have dh5:=Hk _ Hz.out;obtain ⟨gv5,Hl⟩:∃ b,r3.given[fn]? = some b:=⟨_,mH (by rw [Hy];exact Hz.out)⟩;rw [List.getElem?_map,Hl] at dh5;change W5.cell? ⟨e,fn,none⟩=some (.bool gv5) at dh5;have fz5:=Hj fn;obtain ⟨q0,q1,q2,q3,q4,q5,q6,q7,q8,q9⟩:=cz10 Hh.out.rw_.rb;obtain ⟨p0,p1,p2,p3,p4,p5,p6,p7⟩:=cz8 Hh.out.mb
 (rw [Kv.out] at p1)
 clear Hk Hj Hy Hl;have Hm:=mA (mB Kq Hs);clear Kq Hs;go_region
 have HN:=mA ((Hh.out.upd (Hh.out.rw_.put_given Hm.out.1 Hm.out.2 fn true).1 (Same.set_ Hm.out.1 (mE _) (by decide) fn _) (Hh.out.rw_.put_given Hm.out.1 Hm.out.2 fn true).2).below (mG _ _).drew);clear dh5 fz5 q0 q1 q2 q3 q4 q5 q6 q7 q8 q9 p0 p1 p2 p3 p4 p5 p6 p7;obtain ⟨r4,Vj⟩:=mJ (Scu.give1 r2 m.from_ ⟨m.view,m.normal,false,m.log,m.commit⟩);have Hr:r4 = { r3 with given:=r3.given.set fn true }:=by rw [Vj,Hx.out];unfold Scu.give1;rw [show m.from_.toNat=fn by rw [Kv.out];rfl];rfl
 have Ka:Rep3 r4:=by rw [Hr,Hx.out];exact ⟨Ho.out.1,Ho.out.2.1,by simp [Ho.out.2.2.1],by simp [Ho.out.2.2.2.1],Ho.out.2.2.2.2.1,Ho.out.2.2.2.2.2⟩
 have Gg:∀ k ∈ r4.gives,0<=k.normal:=by
  have h1:=zMz m.view Vb.out.1;have h2:=zSj r m.view;rw [HA.out] at h1 h2;have h3:∀ k ∈ r2.gives,0<=k.normal:=by
   rw [<- Hi.out.1];split
   ·exact zLm h1 (by show 0<=ar.kept.normal;rw [show ar.kept.normal=r.kept.normal from h2];exact Vb.out.2.1)
   exact h1
  rw [Hr,Hx.out];exact zLm h3 Vb.out.2.2
 have Kr:Scu.hearGive r m=((Scu.begun r4).1,am ++ (Scu.begun r4).2):=by
  unfold Scu.hearGive;rw [HA.out];simp only [Gq.out,Bool.false_eq_true,↓reduceIte,Gw.out]
  rw [Hi.out.1];unfold Scu.take1;rw [Vj]
 have Ha:=HN.out;obtain ⟨W6,Gh⟩:=mJ ((W5.setCell ⟨e,fn,none⟩ (.bool true)).drew);rw [<- Gh] at Ha ⊢;rw [<- Hr] at Ha;have HS:=mA Ha;have Ho:=mA Ka;have Gz:=mA Gg;have Na:=mA Kr;clear Gh Ha Ka Gg Kr Vj Hr HN;obtain ⟨rb,Kx⟩:=mK (Scu.begun r4);obtain ⟨rr2,ms2⟩:=rb;have Vk:=Na.out.symm.trans HH.out;rw [Kx] at Vk;obtain ⟨Gi,Gj⟩:=Prod.mk.inj Vk;have Kb:=zMy r4;rw [Kx] at Kb;have Kc:=zCx r m.view;rw [HA.out] at Kc;have Nb:=mA Kx;have Gk:=mA (mB Gi Gj);clear Kx Vk Gi Gj;go_wp2_with fail
 refine (zSg g base r4 _ _ _ _ _ _ HS.out.rw_ Ho.out Gz.out rr2 ms2 Nb.out).mono ?_;rintro en x5 ⟨⟨ov2,css2,rfl,Vl⟩,Ks,Ky⟩;obtain ⟨A5,c5,rfl⟩:=Vl.form;have H5:=mA (mB (HS.out.out.same Ky.same) (mB Vl (mB Ks (HS.out.low.trans Ky.low))));have Nc:=mA (show (am.length+ms2.length)*80<=R47 from by unfold R47;(have Kc:am.length<=3:=Kc);(have Kb:ms2.length<=3:=Kb);omega);have Kt:=mA (show am.length+ms2.length<=maxLen/\(am.length+ms2.length)*80<=140737488355328 from by unfold maxLen;(have Kc:am.length<=3:=Kc);(have Kb:ms2.length<=3:=Kb);omega);have Gl:=mA (mD (HS.out.rw_.base_le) (mD (mC _) (Below.size Ky.low)));clear Vl Ks Ky Kc Kb;go_wp2_with (at_builtin;refine zAz _ rfl (.tmp 100) (.tmp 102) 25 rfl zCr base (.slice Ao am.length co) am.length css.flatten rfl H5.out.1.row (.slice A5 ms2.length c5) ms2.length css2.flatten rfl H5.out.2.1.src.2.1 H5.out.2.1.src.2.2 Kt.out.1 Kt.out.2 Gl.out ?_)
 intro v6 x6 h6 Kz _;have Kj:=H5.out.1.append H5.out.2.1 Nc.out h6 Kz;have Ks:=H5.out.2.2.1.app (Same.own H5.out.1.row Kz (mE _) (by decide));have Gm:=H5.out.2.2.2.grown Kz Gl.out (fun q hq=>(H5.out.1.row.lt q hq).1);have HZ:=mA (mB Kj (mB Ks Gm));clear h6 Kz Kj Ks Gm;go_wp2
 go_ret
 rw [<- Gk.out.1,<- Gk.out.2];first | exact ⟨⟨_,rfl,_,HZ.out.1⟩,HZ.out.2.1,HZ.out.2.2⟩ | exact ⟨⟨_,_,rfl,HZ.out.1⟩,HZ.out.2.1,HZ.out.2.2⟩
end Go.Proofs.YtlngfbngnnepiaaGreat
