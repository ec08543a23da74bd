/- store: Fits. store: ContainsFunc, Right, Valid. Places of a segment: how they compare. -/
import Derived.Test.YtgigkennhdolpaaGreatDoorM19
import Derived.Test.YtgigkennhdolpaaGreatDoorM17
namespace Go.Proofs.YtgigkennhdolpaaGreatDoor
open Go.RowKit
theorem du{p:Prop}(h:false=true):p:=by cases h
theorem no_ft{p:Prop}(h:true=false):p:=by cases h
set_option maxHeartbeats 2000000 in
set_option maxRecDepth 8000 in
theorem Fits_walk:∀a,aK ((fun a=>[0≤a.kind∧a.kind≤255]) a)→aX (C:=cx) [] [] 0 ⟨[],[],[],5⟩ Tryz.f100 ((bM gz).enc a) fun v H _=>ai ((fun a=>.v (.bool a.fits)) a) H v:=by
 intro c hk
 replace hk:0≤c.kind∧c.kind≤255:=hk
 obtain⟨kind,v0,v1,v2,v3⟩:=c
 replace hk:0≤kind∧kind≤255:=hk
 by_cases hb:kind<1∨10<kind
 ·refine Ai (fun _=>?_) (fun hc=>?_)
  ·refine Eq.trans (aP (c:=⟨kind,v0,v1,v2,v3⟩) fun h=>?_) rfl
   have h1:1≤kind:=h.1
   have h2:kind≤10:=h.2.1
   omega
  ·have hc:(decide (kind<1)||decide (10<kind))=false:=hc
   simp only[Bool.or_eq_false_iff,decide_eq_false_iff_not] at hc
   omega
 have hk:kind=1∨kind=2∨kind=3∨kind=4∨kind=5∨kind=6∨kind=7∨kind=8∨kind=9∨kind=10:=by omega
 clear hb
 rcases hk with rfl|rfl|rfl|rfl|rfl|rfl|rfl|rfl|rfl|rfl
 ·refine Ai (fun hc=>du hc) (fun _=>?_)
  refine Ai (fun h0=>?_) (fun h0=>?_)
  ·refine Eq.trans (aP (c:=⟨1,v0,v1,v2,v3⟩) fun h=>?_) rfl
   have h0:(decide (v0 < -1048576)||decide (1048576<v0))=true:=h0
   simp only[Bool.or_eq_true,decide_eq_true_eq] at h0
   have h : -1048576≤v0∧v0≤1048576∧-1048576≤v1∧v1≤1048576∧0≤v2∧v2≤0∧0≤v3∧v3≤0:=h.2.2.1 rfl
   omega
  refine Ai (fun h1=>?_) (fun h1=>?_)
  ·refine Eq.trans (aP (c:=⟨1,v0,v1,v2,v3⟩) fun h=>?_) rfl
   have h1:(decide (v1 < -1048576)||decide (1048576<v1))=true:=h1
   simp only[Bool.or_eq_true,decide_eq_true_eq] at h1
   have h : -1048576≤v0∧v0≤1048576∧-1048576≤v1∧v1≤1048576∧0≤v2∧v2≤0∧0≤v3∧v3≤0:=h.2.2.1 rfl
   omega
  refine Ai (fun h2=>?_) (fun h2=>?_)
  ·refine Eq.trans (aP (c:=⟨1,v0,v1,v2,v3⟩) fun h=>?_) rfl
   have h2:(decide (v2<0)||decide (0<v2))=true:=h2
   simp only[Bool.or_eq_true,decide_eq_true_eq] at h2
   have h : -1048576≤v0∧v0≤1048576∧-1048576≤v1∧v1≤1048576∧0≤v2∧v2≤0∧0≤v3∧v3≤0:=h.2.2.1 rfl
   omega
  refine Ai (fun h3=>?_) (fun h3=>?_)
  ·refine Eq.trans (aP (c:=⟨1,v0,v1,v2,v3⟩) fun h=>?_) rfl
   have h3:(decide (v3<0)||decide (0<v3))=true:=h3
   simp only[Bool.or_eq_true,decide_eq_true_eq] at h3
   have h : -1048576≤v0∧v0≤1048576∧-1048576≤v1∧v1≤1048576∧0≤v2∧v2≤0∧0≤v3∧v3≤0:=h.2.2.1 rfl
   omega
  refine Ai (fun hq=>?_) (fun hq=>?_)
  ·exact du hq
  refine Ai (fun hq=>?_) (fun hq=>?_)
  ·exact du hq
  ·skip
   have h0:(decide (v0 < -1048576)||decide (1048576<v0))=false:=h0
   have h1:(decide (v1 < -1048576)||decide (1048576<v1))=false:=h1
   have h2:(decide (v2<0)||decide (0<v2))=false:=h2
   have h3:(decide (v3<0)||decide (0<v3))=false:=h3
   simp only[Bool.or_eq_false_iff,decide_eq_false_iff_not] at h0 h1 h2 h3
   have hF:aJ.Fits ⟨1,v0,v1,v2,v3⟩:=by
    refine⟨(by decide:(1:Int)≤1),(by decide:(1:Int)≤10),fun _=>by(dsimp only;omega),fun hq=>absurd hq (by decide:¬(1:Int)=2),fun hq=>absurd hq (by decide:¬(1:Int)=3),fun hq=>absurd hq (by decide:¬(1:Int)=4),fun hq=>absurd hq (by decide:¬(1:Int)=5),fun hq=>absurd hq (by decide:¬(1:Int)=6),fun hq=>absurd hq (by decide:¬(1:Int)=7),fun hq=>absurd hq (by decide:¬(1:Int)=8),fun hq=>absurd hq (by decide:¬(1:Int)=9),fun hq=>absurd hq (by decide:¬(1:Int)=10),fun hq=>absurd hq (by decide:¬(1:Int)=3),fun hq=>absurd hq (by decide:¬(1:Int)=5)⟩
   refine Eq.trans (eA hF) rfl
 ·refine Ai (fun hc=>du hc) (fun _=>?_)
  refine Ai (fun h0=>?_) (fun h0=>?_)
  ·refine Eq.trans (aP (c:=⟨2,v0,v1,v2,v3⟩) fun h=>?_) rfl
   have h0:(decide (v0 < -4096)||decide (4096<v0))=true:=h0
   simp only[Bool.or_eq_true,decide_eq_true_eq] at h0
   have h : -4096≤v0∧v0≤4096∧-4096≤v1∧v1≤4096∧0≤v2∧v2≤0∧0≤v3∧v3≤0:=h.2.2.2.1 rfl
   omega
  refine Ai (fun h1=>?_) (fun h1=>?_)
  ·refine Eq.trans (aP (c:=⟨2,v0,v1,v2,v3⟩) fun h=>?_) rfl
   have h1:(decide (v1 < -4096)||decide (4096<v1))=true:=h1
   simp only[Bool.or_eq_true,decide_eq_true_eq] at h1
   have h : -4096≤v0∧v0≤4096∧-4096≤v1∧v1≤4096∧0≤v2∧v2≤0∧0≤v3∧v3≤0:=h.2.2.2.1 rfl
   omega
  refine Ai (fun h2=>?_) (fun h2=>?_)
  ·refine Eq.trans (aP (c:=⟨2,v0,v1,v2,v3⟩) fun h=>?_) rfl
   have h2:(decide (v2<0)||decide (0<v2))=true:=h2
   simp only[Bool.or_eq_true,decide_eq_true_eq] at h2
   have h : -4096≤v0∧v0≤4096∧-4096≤v1∧v1≤4096∧0≤v2∧v2≤0∧0≤v3∧v3≤0:=h.2.2.2.1 rfl
   omega
  refine Ai (fun h3=>?_) (fun h3=>?_)
  ·refine Eq.trans (aP (c:=⟨2,v0,v1,v2,v3⟩) fun h=>?_) rfl
   have h3:(decide (v3<0)||decide (0<v3))=true:=h3
   simp only[Bool.or_eq_true,decide_eq_true_eq] at h3
   have h : -4096≤v0∧v0≤4096∧-4096≤v1∧v1≤4096∧0≤v2∧v2≤0∧0≤v3∧v3≤0:=h.2.2.2.1 rfl
   omega
  refine Ai (fun hq=>?_) (fun hq=>?_)
  ·exact du hq
  refine Ai (fun hq=>?_) (fun hq=>?_)
  ·exact du hq
  ·skip
   have h0:(decide (v0 < -4096)||decide (4096<v0))=false:=h0
   have h1:(decide (v1 < -4096)||decide (4096<v1))=false:=h1
   have h2:(decide (v2<0)||decide (0<v2))=false:=h2
   have h3:(decide (v3<0)||decide (0<v3))=false:=h3
   simp only[Bool.or_eq_false_iff,decide_eq_false_iff_not] at h0 h1 h2 h3
   have hF:aJ.Fits ⟨2,v0,v1,v2,v3⟩:=by
    refine⟨(by decide:(1:Int)≤2),(by decide:(2:Int)≤10),fun hq=>absurd hq (by decide:¬(2:Int)=1),fun _=>by(dsimp only;omega),fun hq=>absurd hq (by decide:¬(2:Int)=3),fun hq=>absurd hq (by decide:¬(2:Int)=4),fun hq=>absurd hq (by decide:¬(2:Int)=5),fun hq=>absurd hq (by decide:¬(2:Int)=6),fun hq=>absurd hq (by decide:¬(2:Int)=7),fun hq=>absurd hq (by decide:¬(2:Int)=8),fun hq=>absurd hq (by decide:¬(2:Int)=9),fun hq=>absurd hq (by decide:¬(2:Int)=10),fun hq=>absurd hq (by decide:¬(2:Int)=3),fun hq=>absurd hq (by decide:¬(2:Int)=5)⟩
   refine Eq.trans (eA hF) rfl
 ·refine Ai (fun hc=>du hc) (fun _=>?_)
  refine Ai (fun h0=>?_) (fun h0=>?_)
  ·refine Eq.trans (aP (c:=⟨3,v0,v1,v2,v3⟩) fun h=>?_) rfl
   have h0:(decide (v0<1)||decide (16384<v0))=true:=h0
   simp only[Bool.or_eq_true,decide_eq_true_eq] at h0
   have h:1≤v0∧v0≤16384∧1≤v1∧v1≤16384∧0≤v2∧v2≤1∧0≤v3∧v3≤1:=h.2.2.2.2.1 rfl
   omega
  refine Ai (fun h1=>?_) (fun h1=>?_)
  ·refine Eq.trans (aP (c:=⟨3,v0,v1,v2,v3⟩) fun h=>?_) rfl
   have h1:(decide (v1<1)||decide (16384<v1))=true:=h1
   simp only[Bool.or_eq_true,decide_eq_true_eq] at h1
   have h:1≤v0∧v0≤16384∧1≤v1∧v1≤16384∧0≤v2∧v2≤1∧0≤v3∧v3≤1:=h.2.2.2.2.1 rfl
   omega
  refine Ai (fun h2=>?_) (fun h2=>?_)
  ·refine Eq.trans (aP (c:=⟨3,v0,v1,v2,v3⟩) fun h=>?_) rfl
   have h2:(decide (v2<0)||decide (1<v2))=true:=h2
   simp only[Bool.or_eq_true,decide_eq_true_eq] at h2
   have h:1≤v0∧v0≤16384∧1≤v1∧v1≤16384∧0≤v2∧v2≤1∧0≤v3∧v3≤1:=h.2.2.2.2.1 rfl
   omega
  refine Ai (fun h3=>?_) (fun h3=>?_)
  ·refine Eq.trans (aP (c:=⟨3,v0,v1,v2,v3⟩) fun h=>?_) rfl
   have h3:(decide (v3<0)||decide (1<v3))=true:=h3
   simp only[Bool.or_eq_true,decide_eq_true_eq] at h3
   have h:1≤v0∧v0≤16384∧1≤v1∧v1≤16384∧0≤v2∧v2≤1∧0≤v3∧v3≤1:=h.2.2.2.2.1 rfl
   omega
  refine Ai (fun hq=>?_) (fun hq=>?_)
  ·refine Eq.trans (b:=decide (v2=0)||decide (v0=v1)) ?_ rfl
   have h0:(decide (v0<1)||decide (16384<v0))=false:=h0
   have h1:(decide (v1<1)||decide (16384<v1))=false:=h1
   have h2:(decide (v2<0)||decide (1<v2))=false:=h2
   have h3:(decide (v3<0)||decide (1<v3))=false:=h3
   simp only[Bool.or_eq_false_iff,decide_eq_false_iff_not] at h0 h1 h2 h3
   by_cases hx:v2=0∨v0=v1
   ·skip
    have hF:aJ.Fits ⟨3,v0,v1,v2,v3⟩:=by
     refine⟨(by decide:(1:Int)≤3),(by decide:(3:Int)≤10),fun hq=>absurd hq (by decide:¬(3:Int)=1),fun hq=>absurd hq (by decide:¬(3:Int)=2),fun _=>by(dsimp only;omega),fun hq=>absurd hq (by decide:¬(3:Int)=4),fun hq=>absurd hq (by decide:¬(3:Int)=5),fun hq=>absurd hq (by decide:¬(3:Int)=6),fun hq=>absurd hq (by decide:¬(3:Int)=7),fun hq=>absurd hq (by decide:¬(3:Int)=8),fun hq=>absurd hq (by decide:¬(3:Int)=9),fun hq=>absurd hq (by decide:¬(3:Int)=10),fun _=>hx,fun hq=>absurd hq (by decide:¬(3:Int)=5)⟩
    rw[eA hF]
    rcases hx with hx|hx
    ·rw[decide_eq_true hx];rfl
    ·rw[decide_eq_true hx,Bool.or_true]
   ·rw[aP (c:=⟨3,v0,v1,v2,v3⟩) fun h=>hx (h.2.2.2.2.2.2.2.2.2.2.2.2.1 rfl),decide_eq_false (fun e=>hx (.inl e)),decide_eq_false (fun e=>hx (.inr e))];rfl
  ·exact no_ft hq
 ·refine Ai (fun hc=>du hc) (fun _=>?_)
  refine Ai (fun h0=>?_) (fun h0=>?_)
  ·refine Eq.trans (aP (c:=⟨4,v0,v1,v2,v3⟩) fun h=>?_) rfl
   have h0:(decide (v0<1)||decide (8<v0))=true:=h0
   simp only[Bool.or_eq_true,decide_eq_true_eq] at h0
   have h:1≤v0∧v0≤8∧0≤v1∧v1≤0∧0≤v2∧v2≤0∧0≤v3∧v3≤0:=h.2.2.2.2.2.1 rfl
   omega
  refine Ai (fun h1=>?_) (fun h1=>?_)
  ·refine Eq.trans (aP (c:=⟨4,v0,v1,v2,v3⟩) fun h=>?_) rfl
   have h1:(decide (v1<0)||decide (0<v1))=true:=h1
   simp only[Bool.or_eq_true,decide_eq_true_eq] at h1
   have h:1≤v0∧v0≤8∧0≤v1∧v1≤0∧0≤v2∧v2≤0∧0≤v3∧v3≤0:=h.2.2.2.2.2.1 rfl
   omega
  refine Ai (fun h2=>?_) (fun h2=>?_)
  ·refine Eq.trans (aP (c:=⟨4,v0,v1,v2,v3⟩) fun h=>?_) rfl
   have h2:(decide (v2<0)||decide (0<v2))=true:=h2
   simp only[Bool.or_eq_true,decide_eq_true_eq] at h2
   have h:1≤v0∧v0≤8∧0≤v1∧v1≤0∧0≤v2∧v2≤0∧0≤v3∧v3≤0:=h.2.2.2.2.2.1 rfl
   omega
  refine Ai (fun h3=>?_) (fun h3=>?_)
  ·refine Eq.trans (aP (c:=⟨4,v0,v1,v2,v3⟩) fun h=>?_) rfl
   have h3:(decide (v3<0)||decide (0<v3))=true:=h3
   simp only[Bool.or_eq_true,decide_eq_true_eq] at h3
   have h:1≤v0∧v0≤8∧0≤v1∧v1≤0∧0≤v2∧v2≤0∧0≤v3∧v3≤0:=h.2.2.2.2.2.1 rfl
   omega
  refine Ai (fun hq=>?_) (fun hq=>?_)
  ·exact du hq
  refine Ai (fun hq=>?_) (fun hq=>?_)
  ·exact du hq
  ·skip
   have h0:(decide (v0<1)||decide (8<v0))=false:=h0
   have h1:(decide (v1<0)||decide (0<v1))=false:=h1
   have h2:(decide (v2<0)||decide (0<v2))=false:=h2
   have h3:(decide (v3<0)||decide (0<v3))=false:=h3
   simp only[Bool.or_eq_false_iff,decide_eq_false_iff_not] at h0 h1 h2 h3
   have hF:aJ.Fits ⟨4,v0,v1,v2,v3⟩:=by
    refine⟨(by decide:(1:Int)≤4),(by decide:(4:Int)≤10),fun hq=>absurd hq (by decide:¬(4:Int)=1),fun hq=>absurd hq (by decide:¬(4:Int)=2),fun hq=>absurd hq (by decide:¬(4:Int)=3),fun _=>by(dsimp only;omega),fun hq=>absurd hq (by decide:¬(4:Int)=5),fun hq=>absurd hq (by decide:¬(4:Int)=6),fun hq=>absurd hq (by decide:¬(4:Int)=7),fun hq=>absurd hq (by decide:¬(4:Int)=8),fun hq=>absurd hq (by decide:¬(4:Int)=9),fun hq=>absurd hq (by decide:¬(4:Int)=10),fun hq=>absurd hq (by decide:¬(4:Int)=3),fun hq=>absurd hq (by decide:¬(4:Int)=5)⟩
   refine Eq.trans (eA hF) rfl
 ·refine Ai (fun hc=>du hc) (fun _=>?_)
  refine Ai (fun h0=>?_) (fun h0=>?_)
  ·refine Eq.trans (aP (c:=⟨5,v0,v1,v2,v3⟩) fun h=>?_) rfl
   have h0:(decide (v0<0)||decide (510<v0))=true:=h0
   simp only[Bool.or_eq_true,decide_eq_true_eq] at h0
   have h:0≤v0∧v0≤510∧0≤v1∧v1≤0∧0≤v2∧v2≤0∧0≤v3∧v3≤0:=h.2.2.2.2.2.2.1 rfl
   omega
  refine Ai (fun h1=>?_) (fun h1=>?_)
  ·refine Eq.trans (aP (c:=⟨5,v0,v1,v2,v3⟩) fun h=>?_) rfl
   have h1:(decide (v1<0)||decide (0<v1))=true:=h1
   simp only[Bool.or_eq_true,decide_eq_true_eq] at h1
   have h:0≤v0∧v0≤510∧0≤v1∧v1≤0∧0≤v2∧v2≤0∧0≤v3∧v3≤0:=h.2.2.2.2.2.2.1 rfl
   omega
  refine Ai (fun h2=>?_) (fun h2=>?_)
  ·refine Eq.trans (aP (c:=⟨5,v0,v1,v2,v3⟩) fun h=>?_) rfl
   have h2:(decide (v2<0)||decide (0<v2))=true:=h2
   simp only[Bool.or_eq_true,decide_eq_true_eq] at h2
   have h:0≤v0∧v0≤510∧0≤v1∧v1≤0∧0≤v2∧v2≤0∧0≤v3∧v3≤0:=h.2.2.2.2.2.2.1 rfl
   omega
  refine Ai (fun h3=>?_) (fun h3=>?_)
  ·refine Eq.trans (aP (c:=⟨5,v0,v1,v2,v3⟩) fun h=>?_) rfl
   have h3:(decide (v3<0)||decide (0<v3))=true:=h3
   simp only[Bool.or_eq_true,decide_eq_true_eq] at h3
   have h:0≤v0∧v0≤510∧0≤v1∧v1≤0∧0≤v2∧v2≤0∧0≤v3∧v3≤0:=h.2.2.2.2.2.2.1 rfl
   omega
  refine Ai (fun hq=>?_) (fun hq=>?_)
  ·exact du hq
  refine Ai (fun hq=>?_) (fun hq=>?_)
  ·refine Eq.trans (b:=decide (v0.tmod 2=0)) ?_ rfl
   have h0:(decide (v0<0)||decide (510<v0))=false:=h0
   have h1:(decide (v1<0)||decide (0<v1))=false:=h1
   have h2:(decide (v2<0)||decide (0<v2))=false:=h2
   have h3:(decide (v3<0)||decide (0<v3))=false:=h3
   simp only[Bool.or_eq_false_iff,decide_eq_false_iff_not] at h0 h1 h2 h3
   rw[Int.tmod_eq_emod_of_nonneg (by omega)]
   by_cases hx:v0%2=0
   ·skip
    have hF:aJ.Fits ⟨5,v0,v1,v2,v3⟩:=by
     refine⟨(by decide:(1:Int)≤5),(by decide:(5:Int)≤10),fun hq=>absurd hq (by decide:¬(5:Int)=1),fun hq=>absurd hq (by decide:¬(5:Int)=2),fun hq=>absurd hq (by decide:¬(5:Int)=3),fun hq=>absurd hq (by decide:¬(5:Int)=4),fun _=>by(dsimp only;omega),fun hq=>absurd hq (by decide:¬(5:Int)=6),fun hq=>absurd hq (by decide:¬(5:Int)=7),fun hq=>absurd hq (by decide:¬(5:Int)=8),fun hq=>absurd hq (by decide:¬(5:Int)=9),fun hq=>absurd hq (by decide:¬(5:Int)=10),fun hq=>absurd hq (by decide:¬(5:Int)=3),fun _=>hx⟩
    rw[eA hF,decide_eq_true hx]
   ·rw[aP (c:=⟨5,v0,v1,v2,v3⟩) fun h=>hx (h.2.2.2.2.2.2.2.2.2.2.2.2.2 rfl),decide_eq_false hx]
  ·exact no_ft hq
 ·refine Ai (fun hc=>du hc) (fun _=>?_)
  refine Ai (fun h0=>?_) (fun h0=>?_)
  ·refine Eq.trans (aP (c:=⟨6,v0,v1,v2,v3⟩) fun h=>?_) rfl
   have h0:(decide (v0<0)||decide (15<v0))=true:=h0
   simp only[Bool.or_eq_true,decide_eq_true_eq] at h0
   have h:0≤v0∧v0≤15∧0≤v1∧v1≤0∧0≤v2∧v2≤0∧0≤v3∧v3≤0:=h.2.2.2.2.2.2.2.1 rfl
   omega
  refine Ai (fun h1=>?_) (fun h1=>?_)
  ·refine Eq.trans (aP (c:=⟨6,v0,v1,v2,v3⟩) fun h=>?_) rfl
   have h1:(decide (v1<0)||decide (0<v1))=true:=h1
   simp only[Bool.or_eq_true,decide_eq_true_eq] at h1
   have h:0≤v0∧v0≤15∧0≤v1∧v1≤0∧0≤v2∧v2≤0∧0≤v3∧v3≤0:=h.2.2.2.2.2.2.2.1 rfl
   omega
  refine Ai (fun h2=>?_) (fun h2=>?_)
  ·refine Eq.trans (aP (c:=⟨6,v0,v1,v2,v3⟩) fun h=>?_) rfl
   have h2:(decide (v2<0)||decide (0<v2))=true:=h2
   simp only[Bool.or_eq_true,decide_eq_true_eq] at h2
   have h:0≤v0∧v0≤15∧0≤v1∧v1≤0∧0≤v2∧v2≤0∧0≤v3∧v3≤0:=h.2.2.2.2.2.2.2.1 rfl
   omega
  refine Ai (fun h3=>?_) (fun h3=>?_)
  ·refine Eq.trans (aP (c:=⟨6,v0,v1,v2,v3⟩) fun h=>?_) rfl
   have h3:(decide (v3<0)||decide (0<v3))=true:=h3
   simp only[Bool.or_eq_true,decide_eq_true_eq] at h3
   have h:0≤v0∧v0≤15∧0≤v1∧v1≤0∧0≤v2∧v2≤0∧0≤v3∧v3≤0:=h.2.2.2.2.2.2.2.1 rfl
   omega
  refine Ai (fun hq=>?_) (fun hq=>?_)
  ·exact du hq
  refine Ai (fun hq=>?_) (fun hq=>?_)
  ·exact du hq
  ·skip
   have h0:(decide (v0<0)||decide (15<v0))=false:=h0
   have h1:(decide (v1<0)||decide (0<v1))=false:=h1
   have h2:(decide (v2<0)||decide (0<v2))=false:=h2
   have h3:(decide (v3<0)||decide (0<v3))=false:=h3
   simp only[Bool.or_eq_false_iff,decide_eq_false_iff_not] at h0 h1 h2 h3
   have hF:aJ.Fits ⟨6,v0,v1,v2,v3⟩:=by
    refine⟨(by decide:(1:Int)≤6),(by decide:(6:Int)≤10),fun hq=>absurd hq (by decide:¬(6:Int)=1),fun hq=>absurd hq (by decide:¬(6:Int)=2),fun hq=>absurd hq (by decide:¬(6:Int)=3),fun hq=>absurd hq (by decide:¬(6:Int)=4),fun hq=>absurd hq (by decide:¬(6:Int)=5),fun _=>by(dsimp only;omega),fun hq=>absurd hq (by decide:¬(6:Int)=7),fun hq=>absurd hq (by decide:¬(6:Int)=8),fun hq=>absurd hq (by decide:¬(6:Int)=9),fun hq=>absurd hq (by decide:¬(6:Int)=10),fun hq=>absurd hq (by decide:¬(6:Int)=3),fun hq=>absurd hq (by decide:¬(6:Int)=5)⟩
   refine Eq.trans (eA hF) rfl
 ·refine Ai (fun hc=>du hc) (fun _=>?_)
  refine Ai (fun h0=>?_) (fun h0=>?_)
  ·refine Eq.trans (aP (c:=⟨7,v0,v1,v2,v3⟩) fun h=>?_) rfl
   have h0:(decide (v0 < -2147483648)||decide (2147483647<v0))=true:=h0
   simp only[Bool.or_eq_true,decide_eq_true_eq] at h0
   have h : -2147483648≤v0∧v0≤2147483647∧-2147483648≤v1∧v1≤2147483647∧-2147483648≤v2∧v2≤2147483647∧-2147483648≤v3∧v3≤2147483647:=h.2.2.2.2.2.2.2.2.1 rfl
   omega
  refine Ai (fun h1=>?_) (fun h1=>?_)
  ·refine Eq.trans (aP (c:=⟨7,v0,v1,v2,v3⟩) fun h=>?_) rfl
   have h1:(decide (v1 < -2147483648)||decide (2147483647<v1))=true:=h1
   simp only[Bool.or_eq_true,decide_eq_true_eq] at h1
   have h : -2147483648≤v0∧v0≤2147483647∧-2147483648≤v1∧v1≤2147483647∧-2147483648≤v2∧v2≤2147483647∧-2147483648≤v3∧v3≤2147483647:=h.2.2.2.2.2.2.2.2.1 rfl
   omega
  refine Ai (fun h2=>?_) (fun h2=>?_)
  ·refine Eq.trans (aP (c:=⟨7,v0,v1,v2,v3⟩) fun h=>?_) rfl
   have h2:(decide (v2 < -2147483648)||decide (2147483647<v2))=true:=h2
   simp only[Bool.or_eq_true,decide_eq_true_eq] at h2
   have h : -2147483648≤v0∧v0≤2147483647∧-2147483648≤v1∧v1≤2147483647∧-2147483648≤v2∧v2≤2147483647∧-2147483648≤v3∧v3≤2147483647:=h.2.2.2.2.2.2.2.2.1 rfl
   omega
  refine Ai (fun h3=>?_) (fun h3=>?_)
  ·refine Eq.trans (aP (c:=⟨7,v0,v1,v2,v3⟩) fun h=>?_) rfl
   have h3:(decide (v3 < -2147483648)||decide (2147483647<v3))=true:=h3
   simp only[Bool.or_eq_true,decide_eq_true_eq] at h3
   have h : -2147483648≤v0∧v0≤2147483647∧-2147483648≤v1∧v1≤2147483647∧-2147483648≤v2∧v2≤2147483647∧-2147483648≤v3∧v3≤2147483647:=h.2.2.2.2.2.2.2.2.1 rfl
   omega
  refine Ai (fun hq=>?_) (fun hq=>?_)
  ·exact du hq
  refine Ai (fun hq=>?_) (fun hq=>?_)
  ·exact du hq
  ·skip
   have h0:(decide (v0 < -2147483648)||decide (2147483647<v0))=false:=h0
   have h1:(decide (v1 < -2147483648)||decide (2147483647<v1))=false:=h1
   have h2:(decide (v2 < -2147483648)||decide (2147483647<v2))=false:=h2
   have h3:(decide (v3 < -2147483648)||decide (2147483647<v3))=false:=h3
   simp only[Bool.or_eq_false_iff,decide_eq_false_iff_not] at h0 h1 h2 h3
   have hF:aJ.Fits ⟨7,v0,v1,v2,v3⟩:=by
    refine⟨(by decide:(1:Int)≤7),(by decide:(7:Int)≤10),fun hq=>absurd hq (by decide:¬(7:Int)=1),fun hq=>absurd hq (by decide:¬(7:Int)=2),fun hq=>absurd hq (by decide:¬(7:Int)=3),fun hq=>absurd hq (by decide:¬(7:Int)=4),fun hq=>absurd hq (by decide:¬(7:Int)=5),fun hq=>absurd hq (by decide:¬(7:Int)=6),fun _=>by(dsimp only;omega),fun hq=>absurd hq (by decide:¬(7:Int)=8),fun hq=>absurd hq (by decide:¬(7:Int)=9),fun hq=>absurd hq (by decide:¬(7:Int)=10),fun hq=>absurd hq (by decide:¬(7:Int)=3),fun hq=>absurd hq (by decide:¬(7:Int)=5)⟩
   refine Eq.trans (eA hF) rfl
 ·refine Ai (fun hc=>du hc) (fun _=>?_)
  refine Ai (fun h0=>?_) (fun h0=>?_)
  ·refine Eq.trans (aP (c:=⟨8,v0,v1,v2,v3⟩) fun h=>?_) rfl
   have h0:(decide (v0<0)||decide (1048576<v0))=true:=h0
   simp only[Bool.or_eq_true,decide_eq_true_eq] at h0
   have h:0≤v0∧v0≤1048576∧0≤v1∧v1≤1048576∧0≤v2∧v2≤0∧0≤v3∧v3≤0:=h.2.2.2.2.2.2.2.2.2.1 rfl
   omega
  refine Ai (fun h1=>?_) (fun h1=>?_)
  ·refine Eq.trans (aP (c:=⟨8,v0,v1,v2,v3⟩) fun h=>?_) rfl
   have h1:(decide (v1<0)||decide (1048576<v1))=true:=h1
   simp only[Bool.or_eq_true,decide_eq_true_eq] at h1
   have h:0≤v0∧v0≤1048576∧0≤v1∧v1≤1048576∧0≤v2∧v2≤0∧0≤v3∧v3≤0:=h.2.2.2.2.2.2.2.2.2.1 rfl
   omega
  refine Ai (fun h2=>?_) (fun h2=>?_)
  ·refine Eq.trans (aP (c:=⟨8,v0,v1,v2,v3⟩) fun h=>?_) rfl
   have h2:(decide (v2<0)||decide (0<v2))=true:=h2
   simp only[Bool.or_eq_true,decide_eq_true_eq] at h2
   have h:0≤v0∧v0≤1048576∧0≤v1∧v1≤1048576∧0≤v2∧v2≤0∧0≤v3∧v3≤0:=h.2.2.2.2.2.2.2.2.2.1 rfl
   omega
  refine Ai (fun h3=>?_) (fun h3=>?_)
  ·refine Eq.trans (aP (c:=⟨8,v0,v1,v2,v3⟩) fun h=>?_) rfl
   have h3:(decide (v3<0)||decide (0<v3))=true:=h3
   simp only[Bool.or_eq_true,decide_eq_true_eq] at h3
   have h:0≤v0∧v0≤1048576∧0≤v1∧v1≤1048576∧0≤v2∧v2≤0∧0≤v3∧v3≤0:=h.2.2.2.2.2.2.2.2.2.1 rfl
   omega
  refine Ai (fun hq=>?_) (fun hq=>?_)
  ·exact du hq
  refine Ai (fun hq=>?_) (fun hq=>?_)
  ·exact du hq
  ·skip
   have h0:(decide (v0<0)||decide (1048576<v0))=false:=h0
   have h1:(decide (v1<0)||decide (1048576<v1))=false:=h1
   have h2:(decide (v2<0)||decide (0<v2))=false:=h2
   have h3:(decide (v3<0)||decide (0<v3))=false:=h3
   simp only[Bool.or_eq_false_iff,decide_eq_false_iff_not] at h0 h1 h2 h3
   have hF:aJ.Fits ⟨8,v0,v1,v2,v3⟩:=by
    refine⟨(by decide:(1:Int)≤8),(by decide:(8:Int)≤10),fun hq=>absurd hq (by decide:¬(8:Int)=1),fun hq=>absurd hq (by decide:¬(8:Int)=2),fun hq=>absurd hq (by decide:¬(8:Int)=3),fun hq=>absurd hq (by decide:¬(8:Int)=4),fun hq=>absurd hq (by decide:¬(8:Int)=5),fun hq=>absurd hq (by decide:¬(8:Int)=6),fun hq=>absurd hq (by decide:¬(8:Int)=7),fun _=>by(dsimp only;omega),fun hq=>absurd hq (by decide:¬(8:Int)=9),fun hq=>absurd hq (by decide:¬(8:Int)=10),fun hq=>absurd hq (by decide:¬(8:Int)=3),fun hq=>absurd hq (by decide:¬(8:Int)=5)⟩
   refine Eq.trans (eA hF) rfl
 ·refine Ai (fun hc=>du hc) (fun _=>?_)
  refine Ai (fun h0=>?_) (fun h0=>?_)
  ·refine Eq.trans (aP (c:=⟨9,v0,v1,v2,v3⟩) fun h=>?_) rfl
   have h0:(decide (v0<0)||decide (2147483647<v0))=true:=h0
   simp only[Bool.or_eq_true,decide_eq_true_eq] at h0
   have h:0≤v0∧v0≤2147483647∧0≤v1∧v1≤2147483647∧0≤v2∧v2≤2147483647∧0≤v3∧v3≤2147483647:=h.2.2.2.2.2.2.2.2.2.2.1 rfl
   omega
  refine Ai (fun h1=>?_) (fun h1=>?_)
  ·refine Eq.trans (aP (c:=⟨9,v0,v1,v2,v3⟩) fun h=>?_) rfl
   have h1:(decide (v1<0)||decide (2147483647<v1))=true:=h1
   simp only[Bool.or_eq_true,decide_eq_true_eq] at h1
   have h:0≤v0∧v0≤2147483647∧0≤v1∧v1≤2147483647∧0≤v2∧v2≤2147483647∧0≤v3∧v3≤2147483647:=h.2.2.2.2.2.2.2.2.2.2.1 rfl
   omega
  refine Ai (fun h2=>?_) (fun h2=>?_)
  ·refine Eq.trans (aP (c:=⟨9,v0,v1,v2,v3⟩) fun h=>?_) rfl
   have h2:(decide (v2<0)||decide (2147483647<v2))=true:=h2
   simp only[Bool.or_eq_true,decide_eq_true_eq] at h2
   have h:0≤v0∧v0≤2147483647∧0≤v1∧v1≤2147483647∧0≤v2∧v2≤2147483647∧0≤v3∧v3≤2147483647:=h.2.2.2.2.2.2.2.2.2.2.1 rfl
   omega
  refine Ai (fun h3=>?_) (fun h3=>?_)
  ·refine Eq.trans (aP (c:=⟨9,v0,v1,v2,v3⟩) fun h=>?_) rfl
   have h3:(decide (v3<0)||decide (2147483647<v3))=true:=h3
   simp only[Bool.or_eq_true,decide_eq_true_eq] at h3
   have h:0≤v0∧v0≤2147483647∧0≤v1∧v1≤2147483647∧0≤v2∧v2≤2147483647∧0≤v3∧v3≤2147483647:=h.2.2.2.2.2.2.2.2.2.2.1 rfl
   omega
  refine Ai (fun hq=>?_) (fun hq=>?_)
  ·exact du hq
  refine Ai (fun hq=>?_) (fun hq=>?_)
  ·exact du hq
  ·skip
   have h0:(decide (v0<0)||decide (2147483647<v0))=false:=h0
   have h1:(decide (v1<0)||decide (2147483647<v1))=false:=h1
   have h2:(decide (v2<0)||decide (2147483647<v2))=false:=h2
   have h3:(decide (v3<0)||decide (2147483647<v3))=false:=h3
   simp only[Bool.or_eq_false_iff,decide_eq_false_iff_not] at h0 h1 h2 h3
   have hF:aJ.Fits ⟨9,v0,v1,v2,v3⟩:=by
    refine⟨(by decide:(1:Int)≤9),(by decide:(9:Int)≤10),fun hq=>absurd hq (by decide:¬(9:Int)=1),fun hq=>absurd hq (by decide:¬(9:Int)=2),fun hq=>absurd hq (by decide:¬(9:Int)=3),fun hq=>absurd hq (by decide:¬(9:Int)=4),fun hq=>absurd hq (by decide:¬(9:Int)=5),fun hq=>absurd hq (by decide:¬(9:Int)=6),fun hq=>absurd hq (by decide:¬(9:Int)=7),fun hq=>absurd hq (by decide:¬(9:Int)=8),fun _=>by(dsimp only;omega),fun hq=>absurd hq (by decide:¬(9:Int)=10),fun hq=>absurd hq (by decide:¬(9:Int)=3),fun hq=>absurd hq (by decide:¬(9:Int)=5)⟩
   refine Eq.trans (eA hF) rfl
 ·refine Ai (fun hc=>du hc) (fun _=>?_)
  refine Ai (fun h0=>?_) (fun h0=>?_)
  ·refine Eq.trans (aP (c:=⟨10,v0,v1,v2,v3⟩) fun h=>?_) rfl
   have h0:(decide (v0 < -2147483648)||decide (2147483647<v0))=true:=h0
   simp only[Bool.or_eq_true,decide_eq_true_eq] at h0
   have h : -2147483648≤v0∧v0≤2147483647∧-2147483648≤v1∧v1≤2147483647∧-2147483648≤v2∧v2≤2147483647∧-2147483648≤v3∧v3≤2147483647:=h.2.2.2.2.2.2.2.2.2.2.2.1 rfl
   omega
  refine Ai (fun h1=>?_) (fun h1=>?_)
  ·refine Eq.trans (aP (c:=⟨10,v0,v1,v2,v3⟩) fun h=>?_) rfl
   have h1:(decide (v1 < -2147483648)||decide (2147483647<v1))=true:=h1
   simp only[Bool.or_eq_true,decide_eq_true_eq] at h1
   have h : -2147483648≤v0∧v0≤2147483647∧-2147483648≤v1∧v1≤2147483647∧-2147483648≤v2∧v2≤2147483647∧-2147483648≤v3∧v3≤2147483647:=h.2.2.2.2.2.2.2.2.2.2.2.1 rfl
   omega
  refine Ai (fun h2=>?_) (fun h2=>?_)
  ·refine Eq.trans (aP (c:=⟨10,v0,v1,v2,v3⟩) fun h=>?_) rfl
   have h2:(decide (v2 < -2147483648)||decide (2147483647<v2))=true:=h2
   simp only[Bool.or_eq_true,decide_eq_true_eq] at h2
   have h : -2147483648≤v0∧v0≤2147483647∧-2147483648≤v1∧v1≤2147483647∧-2147483648≤v2∧v2≤2147483647∧-2147483648≤v3∧v3≤2147483647:=h.2.2.2.2.2.2.2.2.2.2.2.1 rfl
   omega
  refine Ai (fun h3=>?_) (fun h3=>?_)
  ·refine Eq.trans (aP (c:=⟨10,v0,v1,v2,v3⟩) fun h=>?_) rfl
   have h3:(decide (v3 < -2147483648)||decide (2147483647<v3))=true:=h3
   simp only[Bool.or_eq_true,decide_eq_true_eq] at h3
   have h : -2147483648≤v0∧v0≤2147483647∧-2147483648≤v1∧v1≤2147483647∧-2147483648≤v2∧v2≤2147483647∧-2147483648≤v3∧v3≤2147483647:=h.2.2.2.2.2.2.2.2.2.2.2.1 rfl
   omega
  refine Ai (fun hq=>?_) (fun hq=>?_)
  ·exact du hq
  refine Ai (fun hq=>?_) (fun hq=>?_)
  ·exact du hq
  ·skip
   have h0:(decide (v0 < -2147483648)||decide (2147483647<v0))=false:=h0
   have h1:(decide (v1 < -2147483648)||decide (2147483647<v1))=false:=h1
   have h2:(decide (v2 < -2147483648)||decide (2147483647<v2))=false:=h2
   have h3:(decide (v3 < -2147483648)||decide (2147483647<v3))=false:=h3
   simp only[Bool.or_eq_false_iff,decide_eq_false_iff_not] at h0 h1 h2 h3
   have hF:aJ.Fits ⟨10,v0,v1,v2,v3⟩:=by
    refine⟨(by decide:(1:Int)≤10),(by decide:(10:Int)≤10),fun hq=>absurd hq (by decide:¬(10:Int)=1),fun hq=>absurd hq (by decide:¬(10:Int)=2),fun hq=>absurd hq (by decide:¬(10:Int)=3),fun hq=>absurd hq (by decide:¬(10:Int)=4),fun hq=>absurd hq (by decide:¬(10:Int)=5),fun hq=>absurd hq (by decide:¬(10:Int)=6),fun hq=>absurd hq (by decide:¬(10:Int)=7),fun hq=>absurd hq (by decide:¬(10:Int)=8),fun hq=>absurd hq (by decide:¬(10:Int)=9),fun _=>by(dsimp only;omega),fun hq=>absurd hq (by decide:¬(10:Int)=3),fun hq=>absurd hq (by decide:¬(10:Int)=5)⟩
   refine Eq.trans (eA hF) rfl
noncomputable def conFits:Con cx:=ah 100 Tryz.call100 (bM gz) _ _ (fun _=>⟨[],[],[],5⟩) [] (fun _=>rfl) follows Tryz.func100 (by kernel_rfl) Fits_walk
set_option maxRecDepth 8000
set_option maxHeartbeats 2000000
def Cms.Sm(l:Cms):Prop:=(l.n:Int)≤cJ∧∀i,i<l.n→0≤(l.c i).kind∧(l.c i).kind≤255
def Ens.Sm(l:Ens):Prop:=(l.n:Int)≤cJ∧∀i,i<l.n→(l.e i).l.Sm
def Cms.inc(l:Cms):Bool:=!fT (fun i=>(l.c i).kind) 1 (l.n-1)
def Ens.inc(l:Ens):Bool:=!fT (fun i=>(l.e i).iD) 1 (l.n-1)
theorem Right1_walk:∀a,aK ((fun a=>[0≤a.kind∧a.kind≤255]) a)→aX (C:=cx) [conFits] [] 0 aw Tryz.f99 ((bM gz).enc a) fun v H _=>ai ((fun a=>.v (.bool (!a.fits))) a) H v:=by
 intro c hk
 refine Ai hk ?_
 exact rfl
noncomputable def conRight1:Con cx:=ah 99 Tryz.call99 (bM gz) _ _ (fun _=>aw) [] (fun _=>rfl) follows Tryz.func99 (by kernel_rfl) Right1_walk
noncomputable def inHasC:FnI cx:=⟨93,Tryz.call93,Tryz.f93,Tryz.func93,[],[],[2],0,by kernel_rfl⟩
def idxHasC(l:Cms):Cut:=⟨Nat,fun k=>k≤l.n∧bc (fun i=>!(l.c i).fits) 0 l.n=bc (fun i=>!(l.c i).fits) k (l.n-k),
 fun k=>⟨[sl 0 l.sv,sl 1 (.v (.func (.func 99) #[] #[])),sl 7 (i64 l.n),sl 8 (i64 k)],[],0,0,[],[]⟩,fun k=>l.n-k⟩
theorem HasC_walk:∀a,aK ((fun a=>[a.1.Sm,a.2=(.v (.func (.func 99) #[] #[]))]) a)→aX (C:=cx) [conRight1] [inHasC] 1 aw Tryz.f98 ((aV gE rdX).enc a) fun v H _=>ai ((fun a=>.v (.bool (bc (fun i=>!(a.1.c i).fits) 0 a.1.n))) a) H v:=by
 intro⟨l,x⟩ ⟨hn,hx⟩
 replace hx:x=.v (.func (.func 99) #[] #[]):=hx
 subst hx
 replace hn:l.Sm:=hn
 have hm:(l.n:Int)≤9223372036854775807:=hn.1
 refine Exists.intro (idxHasC l) ?_
 refine Ai ?_ ?_
 ·refine⟨(0:Nat),[],[],trivial,⟨Nat.zero_le _,rfl⟩,?_⟩
  repeat' (first|(refine Ai ?_ ?_)|(intro _)|exact rfl)
 refine fun(k:Nat) (hk:k≤l.n∧bc (fun i=>!(l.c i).fits) 0 l.n=bc (fun i=>!(l.c i).fits) k (l.n-k))=>?_
 obtain⟨k1,k2⟩:=hk
 refine Ai (fun hb=>?_) (fun hb=>?_)
 ·have hb:(k:Int)<l.n:=Od hb
  have e:=dB (g:=(fun i=>!(l.c i).fits)) (k:=k) (n:=l.n) (by omega)
  refine Ai ⟨by omega,by omega⟩ ?_
  refine Ai (hn.2 k (by omega)) ?_
  refine Ai (fun hc=>?_) (fun hc=>?_)
  ·have hc:(!(l.c k).fits)=true:=hc
   simp only[hc] at e
   refine Eq.trans (a:=bc (fun i=>!(l.c i).fits) 0 l.n) (b:=decide (0≤(k:Int))) ?_ rfl
   rw[k2,e,decide_eq_true (by omega)]
  ·have hc:(!(l.c k).fits)=false:=hc
   simp only[hc] at e
   refine Ai (by unfold I64;omega:I64 ((k:Int)+1)) ?_
   refine⟨k+1,[],[],(by show l.n-(k+1)<l.n-k;omega),⟨by omega,by rw[k2,e]⟩,?_⟩
   repeat' (first|(refine Ai ?_ ?_)|(intro _)|exact rfl)
 ·have hb:¬(k:Int)<l.n:=of_decide_eq_false hb
  have e:bc (fun i=>!(l.c i).fits) 0 l.n=false:=by rw[k2,show l.n-k=0 by omega];rfl
  exact e
noncomputable def conHasC:Con cx:=ah 98 Tryz.call98 (aV gE rdX) _ _ (fun _=>aw) [] (fun _=>rfl) follows Tryz.func98 (by kernel_rfl) HasC_walk
def Ent.right(e:Ent):Bool:=decide (1≤e.iD)&&decide (e.iD≤65536)&&e.l.inc&&!bc (fun i=>!(e.l.c i).fits) 0 e.l.n
theorem Right_walk:∀a,aK ((fun a=>[a.l.Sm]) a)→aX (C:=cx) [conRisC,conHasC] [] 0 aw Tryz.f63 ((bM eG).enc a) fun v H _=>ai ((fun a=>.v (.bool a.right)) a) H v:=by
 intro a hm
 replace hm:a.l.Sm:=hm
 refine Ai (fun _=>⟨fun _ _=>trivial,hm.1,rfl⟩) ?_
 refine Ai (fun _=>⟨fun _ _=>trivial,hm,rfl⟩) ?_
 exact rfl
noncomputable def conRight:Con cx:=ah 63 Tryz.call63 (bM eG) _ _ (fun _=>aw) [] (fun _=>rfl) follows Tryz.func63 (by kernel_rfl) Right_walk
theorem Valid1_walk:∀a,aK ((fun a=>[a.l.Sm]) a)→aX (C:=cx) [conRight] [] 0 aw Tryz.f62 ((bM eG).enc a) fun v H _=>ai ((fun a=>.v (.bool (!a.right))) a) H v:=by
 intro a hm
 refine Ai ⟨fun _ _=>trivial,hm⟩ ?_
 exact rfl
noncomputable def conValid1:Con cx:=ah 62 Tryz.call62 (bM eG) _ _ (fun _=>aw) [] (fun _=>rfl) follows Tryz.func62 (by kernel_rfl) Valid1_walk
noncomputable def inHasE:FnI cx:=⟨96,Tryz.call96,Tryz.f96,Tryz.func96,[],[],[2],0,by kernel_rfl⟩
def idxHasE(l:Ens):Cut:=⟨Nat,fun k=>k≤l.n∧bc (fun i=>!(l.e i).right) 0 l.n=bc (fun i=>!(l.e i).right) k (l.n-k),
 fun k=>⟨[sl 0 l.sv,sl 1 (.v (.func (.func 62) #[] #[])),sl 7 (i64 l.n),sl 8 (i64 k)],[],0,0,[],[]⟩,fun k=>l.n-k⟩
theorem HasE_walk:∀a,aK ((fun a=>[a.1.Sm,a.2=(.v (.func (.func 62) #[] #[]))]) a)→aX (C:=cx) [conValid1] [inHasE] 1 aw Tryz.f61 ((aV oA rdX).enc a) fun v H _=>ai ((fun a=>.v (.bool (bc (fun i=>!(a.1.e i).right) 0 a.1.n))) a) H v:=by
 intro⟨l,x⟩ ⟨hn,hx⟩
 replace hx:x=.v (.func (.func 62) #[] #[]):=hx
 subst hx
 replace hn:l.Sm:=hn
 have hm:(l.n:Int)≤9223372036854775807:=hn.1
 refine Exists.intro (idxHasE l) ?_
 refine Ai ?_ ?_
 ·refine⟨(0:Nat),[],[],trivial,⟨Nat.zero_le _,rfl⟩,?_⟩
  repeat' (first|(refine Ai ?_ ?_)|(intro _)|exact rfl)
 refine fun(k:Nat) (hk:k≤l.n∧bc (fun i=>!(l.e i).right) 0 l.n=bc (fun i=>!(l.e i).right) k (l.n-k))=>?_
 obtain⟨k1,k2⟩:=hk
 refine Ai (fun hb=>?_) (fun hb=>?_)
 ·have hb:(k:Int)<l.n:=Od hb
  have e:=dB (g:=(fun i=>!(l.e i).right)) (k:=k) (n:=l.n) (by omega)
  refine Ai ⟨by omega,by omega⟩ ?_
  refine Ai (⟨fun _ _=>trivial,hn.2 k (by omega)⟩) ?_
  refine Ai (fun hc=>?_) (fun hc=>?_)
  ·have hc:(!(l.e k).right)=true:=hc
   simp only[hc] at e
   refine Eq.trans (a:=bc (fun i=>!(l.e i).right) 0 l.n) (b:=decide (0≤(k:Int))) ?_ rfl
   rw[k2,e,decide_eq_true (by omega)]
  ·have hc:(!(l.e k).right)=false:=hc
   simp only[hc] at e
   refine Ai (by unfold I64;omega:I64 ((k:Int)+1)) ?_
   refine⟨k+1,[],[],(by show l.n-(k+1)<l.n-k;omega),⟨by omega,by rw[k2,e]⟩,?_⟩
   repeat' (first|(refine Ai ?_ ?_)|(intro _)|exact rfl)
 ·have hb:¬(k:Int)<l.n:=of_decide_eq_false hb
  have e:bc (fun i=>!(l.e i).right) 0 l.n=false:=by rw[k2,show l.n-k=0 by omega];rfl
  exact e
noncomputable def conHasE:Con cx:=ah 61 Tryz.call61 (aV oA rdX) _ _ (fun _=>aw) [] (fun _=>rfl) follows Tryz.func61 (by kernel_rfl) HasE_walk
def Wor.valid(w:Wor):Bool:=decide (0≤w.tick)&&decide (w.tick≤1073741824)&&decide ((w.l.n:Int)≤64)&&w.l.inc&&!bc (fun i=>!(w.l.e i).right) 0 w.l.n
theorem WValid_walk:∀a,aK ((fun a=>[a.l.Sm]) a)→aX (C:=cx) [conRisE,conHasE] [] 0 aw Tryz.f23 ((bM cP).enc a) fun v H _=>ai ((fun a=>.v (.bool a.valid)) a) H v:=by
 intro a hm
 replace hm:a.l.Sm:=hm
 refine Ai (fun _=>⟨fun _ _ _ _=>trivial,hm.1,rfl⟩) ?_
 refine Ai (fun _=>⟨fun _ _ _ _=>trivial,hm,rfl⟩) ?_
 exact rfl
noncomputable def je:Con cx:=ah 23 Tryz.call23 (bM cP) _ _ (fun _=>aw) [] (fun _=>rfl) follows Tryz.func23 (by kernel_rfl) WValid_walk
end Go.Proofs.YtgigkennhdolpaaGreatDoor
namespace Go.Proofs.YtgigkennhdolpaaGreatDoor
def jf(x y:Int):Int:=if x<y then -1 else if y<x then 1 else 0
end Go.Proofs.YtgigkennhdolpaaGreatDoor
