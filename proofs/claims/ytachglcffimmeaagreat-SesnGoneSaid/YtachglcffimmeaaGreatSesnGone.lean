/-
  SesnGone answers true for all numbers of a session, all bytes of which a frame is made, and all numbers of requests. No condition.
-/
import Derived.Test.YtachglcffimmeaaGreatQ38
import Derived.ProofKit
import Derived.Carry
import Derived.OpenShut
import Derived.Below
set_option linter.unusedVariables false
namespace Go.Proofs.YtachglcffimmeaaGreat.sesnGone
open Go.ChangeShapes Go.WideShapes Go.ChangeAt Go.RowKit
theorem own:ownKnob Tryz.prog.godebug=none:=by kernel_rfl
theorem aaw_:laidOutB Tryz.prog=true:=by kernel_rfl
set_option maxRecDepth 100000 in
theorem aoM_(os:Os)(started:os.Started)(H:Type)(enc:TypeId×Value→H):
  ReturnsInHanded {} Tryz.checked os 4 .any (Rows.sesnGoneSpec.pre6 enc Tryz.prog Tryz.f4 Rows.sesnGoneRow.domain false) (Rows.sesnGoneSpec.post enc Tryz.prog Tryz.f4 false true false false):=by
 refine returnsInHanded_of_change (C:= Tryz.checked) own started (by kernel_rfl) Tryz.func4
  (ChangeSpec.witness6 (enc:=enc) (C:= Tryz.checked) false ⟨#[], #[.slice none 0 0,.slice none 0 0,.slice none 0 0],[]⟩ 8 (by kernel_rfl) (by kernel_rfl) (by kernel_rfl) (by kernel_rfl)) ?_
 intro W base args ds gs before hval0 hW hcnd _
 have hval: ∀(j:Nat) t v, Tryz.f4.params[j]? =some t→args[j]? =some v→Value.okWide Tryz.prog W .any base t v:=hval0
 have hW':=hW
 obtain⟨p,q,hA0,hV,rfl,hfz,hnd⟩:=hW
 have hA:DataW.TrodAll enc Tryz.prog W 0 (fun _=>true) true Tryz.f4.params.toList args.toList ds p:=hA0
 rw[Tryz.params4]at hA hval
 obtain⟨v0,vs0,d0,ds0,p0,q0,hargs,rfl,rfl,h0,r0⟩:=trodAll_cons hA
 obtain⟨v1,vs1,d1,ds1,p1,q1,rfl,rfl,rfl,h1,r1⟩:=trodAll_cons r0
 obtain⟨v2,vs2,d2,ds2,p2,q2,rfl,rfl,rfl,h2,r2⟩:=trodAll_cons r1
 obtain⟨rfl,rfl,rfl⟩:=trodAll_nil r2
 obtain rfl:args= #[v0,v1,v2]:=by cases args;simp_all
 obtain⟨rfl,rfl⟩:=trodVars_none hV
 have o0:=hval 0 22 v0 rfl rfl
 have k0:=h0
 have lt0: ∀x∈p0,x.block<W.heap.size:=by obtain⟨m,hm⟩:=k0;exact DataW.trod_lt m _ _ _ hm
 have o1:=hval 1 22 v1 rfl rfl
 have k1:=h1
 have lt1: ∀x∈p1,x.block<W.heap.size:=by obtain⟨m,hm⟩:=k1;exact DataW.trod_lt m _ _ _ hm
 have o2:=hval 2 22 v2 rfl rfl
 have k2:=h2
 have lt2: ∀x∈p2,x.block<W.heap.size:=by obtain⟨m,hm⟩:=k2;exact DataW.trod_lt m _ _ _ hm
 clear hA0 hval0
 obtain⟨u0,g0,t0⟩:=Ev.aoe_ (α:=Ev.U8) Ev.aqu_ Tryz.underlying22 (by kernel_rfl) o0 h0
 obtain⟨u1,g1,t1⟩:=Ev.aoe_ (α:=Ev.U8) Ev.aqu_ Tryz.underlying22 (by kernel_rfl) o1 h1
 obtain⟨u2,g2,t2⟩:=Ev.aoe_ (α:=Ev.U8) Ev.aqu_ Tryz.underlying22 (by kernel_rfl) o2 h2
 refine(Ev.aqt_ (Ev.aoQ_ g0) (Ev.aoQ_ g1) (Ev.aoQ_ g2) (Ev.aoP_ g0) (Ev.aoP_ g1) (Ev.aoP_ g2) W _ (Ev.PW.cons t0 (Ev.PW.cons t1 (Ev.PW.cons t2 (Ev.PW.nil _))))).mono fun e W' ⟨he,bel⟩=> ?_
 subst he
 exact⟨_,rfl,_,_,_,[],_,[],hW',trodAll_mk1 (shut_bool Tryz.underlying4 _),(trodAll_cons_mk (Below.trod aaw_ (by kernel_rfl) (of_decide_eq_true (by kernel_rfl)) k0 bel lt0) (trodAll_cons_mk (Below.trod aaw_ (by kernel_rfl) (of_decide_eq_true (by kernel_rfl)) k1 bel lt1) (trodAll_cons_mk (Below.trod aaw_ (by kernel_rfl) (of_decide_eq_true (by kernel_rfl)) k2 bel lt2) trodAll_mk0))),rfl,bel.frame _,fun h=>by cases h⟩
theorem over:Rows.sesnGoneRow.holds Tryz.pinned (OpenSpec.ofChange Rows.sesnGoneSpec):=
 OpenClaim.holds_of_wide 4 Tryz.f4 rfl rfl rfl rfl rfl rfl rfl ⟨rfl,rfl,rfl,rfl,rfl⟩ rfl rfl rfl rfl rfl (by kernel_rfl) Tryz.func4 (by kernel_rfl)
  (of_decide_eq_true (by kernel_rfl)) (by unfold Func.isWrapper;rw[if_neg (by decide+kernel)];exact⟨rfl,rfl⟩)
  (fun os started H enc _=>aoM_ os started H enc)
theorem proved:Rows.SesnGoneSaid:=over
#print axioms proved
end Go.Proofs.YtachglcffimmeaaGreat.sesnGone
