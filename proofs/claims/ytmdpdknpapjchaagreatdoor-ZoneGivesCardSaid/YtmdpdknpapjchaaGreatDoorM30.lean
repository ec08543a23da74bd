/- Company, 66: iterators of any shape. -/
import Derived.Test.YtmdpdknpapjchaaGreatDoorM29
set_option linter.all false
namespace Go.Proofs.YtmdpdknpapjchaaGreatDoor
set_option maxRecDepth 100000
noncomputable section
open Go.Conc Go.RowKit
variable {a:Act}{ops:Array Oper}{c draw sp:Bool}{ct:Cut}{h:How}{I:Inl}{inls:List Nat}{XN ρ:Names}{id j l m n nh nt:Nat}{PP:Program}{st:St}{dg dn dp tf:Tmp}{v:Value}{W' w0:World}{C:Cx PP}{Γ:List (XR C)}
def fV:List (Nat×Slot)->Bool
 | []=>true
 | (_,s)::r=>match s.g,mu s.v with|[],true=>fV r|_,_=>false
theorem rj{t:Nat}{s:Slot} : ∀{l:List (Nat×Slot)},fV l=true->look l t=some s->mu s.v=true
 | [],_,h=>by cases h
 | (u,x)::r,hp,h=>by simp only[fV] at hp;split at hp;rename_i hv;by_cases e:u=t;subst e;rw[ai] at h;obtain rfl:=Oi h;exact hv;rw[ah _ _ e] at h;exact rj hp h;cases hp
structure PS {PP:Program} (C:Cx PP) (nt:Nat) (z:Nat->Nat->Value->Prop) (sl:List (Nat×Slot)) (a:Act) (W:World):Prop where
 grd:C.ZQ W
 zok:∀b i c,z b i c->W.cell? ⟨b,i,none⟩=some c∧c.oneCell'=true
 sz:a.tmps.size=nt
 df:a.defers=[]
 cw:∀t s,look sl t=some s->s.g=[]->∃x,den (aI z) s.v x∧a.tmps[t]? = some x
def cov(sl:List (Nat×Slot))(st:St):Prop:=∃(σ:List (Nat×Nat)) (t:List Tr),Iq 0 σ ⟨sl,[],0,0,[],[]⟩ (trs 0 t st)
section
variable {z:Nat->Nat->Value->Prop}{sl:List (Nat×Slot)}{W:World}
theorem J3{z z':Nat->Nat->Value->Prop}(h:∀b i c,z b i c->z' b i c):(aI z).le (aI z'):=⟨λ_ _ h=>(by cases h),λ_ _ h=>(by cases h),λ_ _ _ h=>(by cases h),h⟩
theorem PS.rp{rg:Nat}(h:PS C nt z sl a W)(hrg:rgB rg sl=true):Rp C nt W (aI z).YE ⟨sl,[],0,rg,[],[]⟩ (aI z) a W:=
 ⟨⟨Mem.refl (gb h.grd h.zok).hb (λn b h=>by cases h) (λe l h=>by cases h) (λm i l h=>by cases h),(gb h.grd h.zok).blk,h.sz,h.df⟩,CC hrg,h.cw⟩
theorem EO:∀b,¬jb (aI z).YE b:=λb ho=>by
 rcases ho with ⟨n,ho|⟨e,l,o,h1,-⟩|⟨i,l,o,h1,-⟩⟩|ho
 cases ho;cases h1;cases h1;exact ho
theorem PS.of(hr:Rp C nt W (aI z).YE st ρ a W')(hc:cov sl st)(hp:fV sl=true) :
  Gr W W'∧∃z':Nat->Nat->Value->Prop,(∀b i c,z' b i c->(z b i c∨W.heap.size<=b)∧W'.cell? ⟨b,i,none⟩=some c∧c.oneCell'=true)∧PS C nt z' sl a W':=by
 obtain⟨σ,t,hle⟩:=hc;obtain⟨Yj,hr1⟩:=xv (t:=t) (nm0:=0) (λn b h=>by cases h) (λe l h=>by cases h) (λm i l h=>by cases h) hr;have ZE:=hle.rp (λn b h=>by cases h) (λe l h=>by cases h) (λm i l h=>by cases h) hr1;refine⟨hr.base.mem.keep.Jb EO,_,λb i c hz=>⟨?_,ZE.base.mem.hb.zok b i c hz⟩,ZE.base.mem.hb.grd,ZE.base.mem.hb.zok,ZE.base.sz,ZE.base.df,λt s hs hg=>?_⟩;rcases ZE.base.mem.zold b i c hz with h|h|h;exact .inl h;exact .inr h;exact P' h (EO b);obtain⟨x,h1,h2⟩:=ZE.cw t s hs hg;exact⟨x,mr _ _ (rj hp hs) h1,h2⟩
theorem PS.tail{t:Nat}{s:Slot}(h:PS C nt z ((t,s)::sl) a W)(hn:look sl t=none):PS C nt z sl a W:=
 ⟨h.grd,h.zok,h.sz,h.df,λt' s' hs hg=>h.cw t' s' (by have:t≠t':=(by rintro rfl;rw[hn] at hs;cases hs);rw[ah _ _ this];exact hs) hg⟩
theorem PS.put{d:Nat}(h:PS C nt z sl a W)(hn:look sl d=none):PS C nt z sl (a.put (some d) v) W:=
 ⟨h.grd,h.zok,by show (a.tmps.setIfInBounds d v).size=nt;simp[h.sz],h.df,λt s hs hg=>by have e:d≠t:=(by rintro rfl;rw[hn] at hs;cases hs);obtain⟨x,h1,h2⟩:=h.cw t s hs hg;exact⟨x,h1,by show (a.tmps.setIfInBounds d v)[t]? = some x;rw[M' e];exact h2⟩⟩
theorem tD{sl:List (Nat×Slot)} : ∀{ps:List Nat} {vs:List SV},dB vs=true->fV sl=true->fV (jk 0 ps vs++sl)=true
 | [],_,_,h=>h
 | _::_,[],_,h=>h
 | p::ps,v::vs,hv,h=>by
  have h1:mu v=true∧dB vs=true:=by
   unfold dB at hv;cases hp:mu v with
   | true=>rw[hp] at hv;exact⟨rfl,hv⟩
   | false=>rw[hp] at hv;cases hv
  show fV ((p,⟨0,0,[],v⟩)::(jk 0 ps vs++sl))=true;simp only[fV,h1.1];exact tD h1.2 h
theorem pc{sl:List (Nat×Slot)}{t:Nat} : ∀{ps:List Nat} {vs:List SV},t ∉ ps->look sl t=none->look (jk 0 ps vs++sl) t=none
 | [],_,_,h=>h
 | _::_,[],_,h=>h
 | p::ps,v::vs,hn,h=>by show look ((p,⟨0,0,[],v⟩)::(jk 0 ps vs++sl)) t=none;rw[ah _ _ λe=>hn (by rw[<-e];exact J' ..)];exact pc (λhm=>hn (Xm _ hm)) h
theorem PS.zip:∀{ps:List Nat} {vs:List SV},PS C nt z (jk 0 ps vs++sl) a W->ps.Nodup->ps.length=vs.length->(∀t∈ps,look sl t=none)->∃us,au (aI z) vs us∧ps.map (λt=>a.eval (.tmp t))=us∧PS C nt z sl a W
 | [],[],h,_,_,_=>⟨[],rfl,rfl,h⟩
 | [],v::vs,_,_,hl,_=>by simp at hl
 | p::ps,[],_,_,hl,_=>by simp at hl
 | p::ps,v::vs,h,hn,hl,hs=>by obtain⟨hn1,hn2⟩:=List.nodup_cons.1 hn;have h:PS C nt z ((p,⟨0,0,[],v⟩)::(jk 0 ps vs++sl)) a W:=h;obtain⟨x,x1,x2⟩:=h.cw p _ (ai _ _ _) rfl;obtain⟨us,h1,h2,h3⟩:=PS.zip (h.tail (pc hn1 (hs p (J' ..)))) hn2 (by simpa using hl) λt ht=>hs t (Xm _ ht);exact⟨x::us,aN x1 h1,by rw[List.map_cons,h2,aY x2],h3⟩
theorem iy{t:Tmp}{x:Value}(h:a.tmps[t]? = some x):a.eval (.tmp t)=x:=aY h
end
theorem mb{P:Program}{co:Bool}{ops:Array Oper}{Q:Exit->Act->World->Prop}{r:List Oper} : ∀(l:List Oper) (a:Act) (w:World),cL P co ops (λ_ a w=>cL P co ops Q r a w) l a w->cL P co ops Q (l++r) a w
 | [],a,w,h=>h
 | o::l,a,w,h=>by have ih:=mb (P:=P) (co:=co) (ops:=ops) (Q:=Q) (r:=r) l;simp only[cL] at h;show cL P co ops Q (o::(l++r)) a w;simp only[cL];split;rename_i hw;rw[Xl hw] at h;exact h.mono λa w h=>ih a w h;rename_i hw;rw[Xk hw] at h;exact ih _ _ h
def kK(Γ:List (XR C))(nt:Nat)(I:Inl)(inls:List Nat)(sp:Bool)(ops:Array Oper)(draw:Bool)(n m:Nat):St->(St->Prop)->Prop
 | ⟨sl,H,nm,rg,_,_⟩,K=>match draw with
  | false=>match Av rg with|.mk rg'=>uM Γ nt I inls ops.toList sp 0 (mh m ops.toList) ⟨sl,H,nm,rg',[],[]⟩ K|.no=>False
  | true=>match Av rg with
   | .no=>False
   | .mk rg'=>AY (iF Γ nt true ops.toList (mh n ops.toList)) 0 (mh n ops.toList) ⟨sl,H,nm,rg',[],[]⟩
     λst=>uM Γ nt I inls ops.toList sp n (mh (m-n) (ops.toList.drop n)) st K
section
variable {W:World}
theorem yA{Q:Exit->Act->World->Prop}{K:St->Prop}(hI:eT C I)(hm:C.P.follows .mixedOrders=true)(hB:draw=true->kG ops n=true)(hnm:n<=m)(hms:m<=ops.toList.length)(h:Rp C nt w0 XN st ρ a W)(he:kK Γ nt I inls sp ops draw n m st K)(hQ:∀st ρ a W,K st->Rp C nt w0 XN st ρ a W->cL C.P C.co ops Q (ops.toList.drop m) a W):wpR C.P C.co (.region id ops draw) Q a W:=by
 obtain⟨sl,H,nm,rg,rd,ws⟩:=st;have hi:=h.enter;have hQ':∀st ρ a W,K st->RI C nt w0 XN st ρ a W->cL C.P C.co ops Q (ops.toList.drop m) a W:=λst ρ a W hk hr=>hQ st ρ a W hk hr.leave;cases draw with
 | false=>
  simp only[kK,lF,oV] at he;refine lT ?_;have:=mb _ _ _ (mM (Q:=λ_ a w=>cL C.P C.co ops Q (ops.toList.drop m) a w) hI hQ' _ _ _ _ _ _ hi he)
  rwa [List.take_append_drop] at this
 | true=>
  unfold kK at he;simp only[lF] at he;have hB:kG ops n=true:=hB rfl;simp only[oV] at he;have hle:n<=ops.toList.length:=Nat.le_trans hnm hms;have hlen:(ops.toList.take n).length=n:=(by rw[List.length_take];omega);obtain⟨XV,hK⟩:=uN _ (l:=ops.toList.take n) (st0:=⟨sl,H,nm,rg+1,[],[]⟩) (ops.toList.take n) 0 (λj=>by simp) (by simp) he;have F:cQ Γ nt ops.toList (ops.toList.take n) ⟨sl,H,nm,rg+1,[],[]⟩ (pU (iF Γ nt true ops.toList (ops.toList.take n)) (ops.toList.take n) ⟨sl,H,nm,rg+1,[],[]⟩):=
   ⟨rfl,λi o ho=>XV i o (F9 _) ho,λt s hs=>by
    have:s.rg<=rg:=h.rgs t s hs;show s.rg≠rg+1;omega,λi o ho=>by
    have hl:i<n:=by have:=(F3.1 ho).1;omega
    rwa [Xn hl] at ho⟩
  refine l8 hm λW1 r1=>?_;have hid:=hi.later r1;refine oq (n:=n) hB (λlisted a' W'=>∃XM,HI C nt w0 XN (ops.toList.take n) ⟨sl,H,nm,rg+1,[],[]⟩ (pU (iF Γ nt true ops.toList (ops.toList.take n)) (ops.toList.take n) ⟨sl,H,nm,rg+1,[],[]⟩) ρ a listed XM a' W')
   ⟨ρ,uq F hid (λi=>getD_replicate_false _ i)⟩ ?_ ?_
  intro listed a' W' i o inv hI' hin ho hu X7 K' hK';have hho:(ops.toList.take n)[i]? = some o:=(by rw[Xn hin];simpa using ho);exact E9 F hlen hid listed a' W' i o inv hI' hin ho hho hu X7 K' hK';intro listed a' W' ⟨XM,hI'⟩ X8;have:=mb _ _ _ (mM (Q:=λ_ a w=>cL C.P C.co ops Q (ops.toList.drop m) a w) hI hQ' _ _ _ XM a' W' (wQ F hid hI' (by rw[hlen];exact X8)) hK);have e:(ops.toList.drop n).take (m-n)++ops.toList.drop m=ops.toList.drop n:=by have h1:=List.take_append_drop (m-n) (ops.toList.drop n);rw[List.drop_drop,show n+(m-n)=m by omega] at h1;exact h1
  rwa [e] at this
end
structure vt {PP:Program} (C:Cx PP) (l n:Nat) (f:Nat->List SV) (J:(Nat->Nat->Value->Prop)->Nat->World->Prop):Prop where
 facts:∀z k W,J z k W->C.ZQ W∧∀b i c,z b i c->W.cell? ⟨b,i,none⟩=some c∧c.oneCell'=true
 grow:∀(z z':Nat->Nat->Value->Prop) k W W',J z k W->Gr W W'->(∀b i c,z' b i c->(z b i c∨W.heap.size<=b)∧W'.cell? ⟨b,i,none⟩=some c∧c.oneCell'=true)->J (λb i c=>z b i c∨z' b i c) k W'
 round:∀z k W us,J z k W->k<n->au (aI z) (f k) us->MO C.P C.co l us.toArray W λv W'=>v=.bool true∧J z (k+1) W'
section
variable {z:Nat->Nat->Value->Prop}{sl:List (Nat×Slot)}{W:World}{k:Nat}{f:Nat->List SV}{J:(Nat->Nat->Value->Prop)->Nat->World->Prop}
theorem vt.adv(Y:vt C l n f J)(hj:J z k W)(hr:Rp C nt W (aI z).YE st ρ a W')(hc:cov sl st)(hp:fV sl=true):∃z',J z' k W'∧PS C nt z' sl a W':=by obtain⟨g,z',h1,h2⟩:=PS.of hr hc hp;have hj':=Y.grow z z' k W W' hj g h1;obtain⟨f1,f2⟩:=Y.facts _ _ _ hj';exact⟨_,hj',f1,f2,h2.sz,h2.df,λt s hs hg=>let ⟨x,q1,q2⟩:=h2.cw t s hs hg;⟨x,bE (J3 λ_ _ _ h=>.inr h) _ _ q1,q2⟩⟩
theorem vt.later(Y:vt C l n f J)(hj:J z k W)(r:Rv W W'):J z k W':=by
 obtain⟨g1,g2⟩:=Y.facts _ _ _ hj;have h:=Y.grow z z k W W' hj (db r) (λb i c hz=>⟨.inl hz,(by have Yr:=(g2 b i c hz).1;have hlt8:b<W.heap.size:=(by rcases Nat.lt_or_ge b W.heap.size with h|h;exact h;have hn:W.heap[b]? = none:=Array.getElem?_eq_none h;unfold World.cell? at Yr;simp[hn] at Yr);exact⟨(cell_of_heap (r.same hlt8)).trans Yr,(g2 b i c hz).2⟩)⟩);have e7:(λb i c=>z b i c∨z b i c)=z:=by funext b i c;simp
 rwa [e7] at h
theorem IY(Y:vt C l n f J)(hj:J z k W)(hk:k<n){us:List Value}(hd:au (aI z) (f k) us){dy:Option Tmp}{ays:Array Operand}{ats:Array TypeId}{ty:TypeId}{pos:String}{after:Array Edge}{g:Option (Nat×Bool)}(hf:a.eval (.tmp tf)=.func (.yield l) #[] #[])(ha:ays.map a.eval=us.toArray) :
  OpJ C.P C.co ⟨dy,.call ⟨.value (.tmp tf),ays,ats⟩,ty,pos,after,g⟩ a W (λa' W'=>a'=a.put dy (.bool true)∧J z (k+1) W'):=by
 have hx:execOp a.eval ⟨dy,.call ⟨.value (.tmp tf),ays,ats⟩,ty,pos,after,g⟩=Instr.yield l us.toArray:=by simp only[execOp,resolve,hf,ha,Deferred.ofValue];simp[invoke]
 refine⟨by rw[hx];exact J8 _ _,λW1 r1=>?_⟩;obtain⟨fn,tmps,YI,body,hy,hr⟩:=Y.round z k W us hj hk hd W1 r1;unfold c8;rw[hx,hy];exact kl.mono hr λv w ⟨e,h⟩=>⟨by rw[e],h⟩
theorem Cf{P:Program}{co:Bool}{o:Oper}{K:Act->World->Prop}(hns:NS P (execOp a.eval o))(e:∀W1,(execOp a.eval o).run P W1=.ok (.value v) W1)(h:∀W1,Rv W W1->K (a.put o.dst v) W1):OpJ P co o a W K:=
 ⟨hns,λW1 r1=>bx (e W1) (h W1 r1)⟩
theorem PS.later(Y:vt C l n f J)(hj:J z k W)(hp:PS C nt z sl a W'):PS C nt z sl a W:=⟨(Y.facts _ _ _ hj).1,(Y.facts _ _ _ hj).2,hp.sz,hp.df,hp.cw⟩
theorem sq{d:Tmp}(h:d<a.tmps.size):(a.put (some d) v).eval (.tmp d)=v:=iy (by show (a.tmps.setIfInBounds d v)[d]? = _;simp[h])
theorem v7(Y:vt C l n f J)(hI:eT C I)(hm:C.P.follows .mixedOrders=true){dy:Tmp}{tas:List Nat}{ats:Array TypeId}{tyY tyN tN tyP:TypeId}{posY posN posP:String}{afterY afterN afterP:Array Edge}(hd:ops.toList.drop m=[⟨some dy,.call ⟨.value (.tmp tf),(tas.map Operand.tmp).toArray,ats⟩,tyY,posY,afterY,some (j,true)⟩,⟨some dn,.unOp .not tN (.tmp dy),tyN,posN,afterN,some (j,true)⟩,⟨some dp,.pick (.tmp dg) (.tmp dn) (.const (.bool false)),tyP,posP,afterP,none⟩])(hg:(ops[j]?).bind (·.dst)=some dg)(hgd:dg≠dy∧dg≠dn)(hgt:dg≠tf∧dg ∉ tas)(hB:draw=true->kG ops nh=true)(hnm:nh<=m)(hms:m<=ops.toList.length)(hdy:dy<nt)(hdn:dn<nt)(hdp:dp<nt)(Z4:look sl dy=none∧look sl dn=none∧(∀t∈tas,look sl t=none)∧look sl tf=none∧look sl dp=none∧look sl dg=none)(hfa:(tf::tas).Nodup)(hfl:tas.length=(f k).length)(hfp:dB (f k)=true)(hsp:fV sl=true)(hk:c=true->k<n)(hj:J z k W)(hR:Rp C nt W (aI z).YE st ρ a W')(he:kK Γ nt I inls sp ops draw nh m st (λst=>match c with
   | true=>cov ((dg,⟨0,0,[],.v (.bool true)⟩)::(tf,⟨0,0,[],.v (.func (.yield l) #[] #[])⟩)::(jk 0 tas (f k)++sl)) st
   | false=>cov ((dg,⟨0,0,[],.v (.bool false)⟩)::sl) st)) :
  wpR C.P C.co (.region id ops draw) (λe a' W'=>e=.normal∧a'.eval (.tmp dp)=.bool false∧∃z',J z' (match c with|true=>k+1|false=>k) W'∧PS C nt z' sl a' W') a W':=by
 have hyl:∀(a:Act) (x:Bool),a.tmps[dg]? = some (.bool x)->yielded ops a.tmps j=some x:=λa x h=>by unfold yielded;rw[hg];show (match a.tmps[dg]? with|some (.bool b)=>some b|_=>none)=_;rw[h]
 refine yA hI hm hB hnm hms hR he λst7 ρ7 a7 W7 hk7 hr7=>?_;rw[hd];simp only[cL];cases c with
 | false=>
  obtain⟨z7,hj7,hps7⟩:=Y.adv hj hr7 hk7 (by simp only[fV,mu];exact hsp);obtain⟨xg,g1,g2⟩:=hps7.cw dg _ (ai _ _ _) rfl;obtain rfl:xg=.bool false:=g1;have hps8:=hps7.tail Z4.2.2.2.2.2;have hw:∀(a:Act) (o:Oper),o.guard=some (j,true)->a.tmps[dg]? = some (.bool false)->¬Region.wanted o (yielded ops a.tmps)=true:=λa o ho h e=>(by unfold Region.wanted at e;rw[ho] at e;simp[hyl a false h] at e);have hput:∀(a:Act) (d:Tmp) (v:Value),dg≠d->a.tmps[dg]? = some (.bool false)->(a.put (some d) v).tmps[dg]? = some (.bool false):=λa d v XW h=>(by show (a.tmps.setIfInBounds d v)[dg]? = _;rw[M' (Ne.symm XW)];exact h);rw[Xk (hw _ _ rfl g2)];have g3:=hput a7 dy undef hgd.1 g2;rw[Xk (hw _ _ rfl g3)];have g4:=hput _ dn undef hgd.2 g3;rw[Xl (eD rfl)];refine Cf (v:=.bool false) ?_ (λW1=>pn (b:=false) (iy g4)) λW9 r9=>?_;have Z1:=iy g4;simp only[execOp];exact aa (by rw[Z1];trivial) λb=>trivial;have hj9:=Y.later hj7 r9;have q1:=(((hps8.put (v:=undef) Z4.1).put (v:=undef) Z4.2.1).later Y hj9).put (v:=.bool false) Z4.2.2.2.2.1;exact⟨trivial,sq (by have:=hps8.sz;simp[Act.put,this];exact hdp),z7,hj9,q1⟩
 | true=>
  obtain⟨z7,hj7,hps7⟩:=Y.adv hj hr7 hk7 (by simp only[fV,mu];exact tD hfp hsp);obtain⟨xg,g1,g2⟩:=hps7.cw dg _ (ai _ _ _) rfl;obtain rfl:xg=.bool true:=g1;obtain⟨hfa1,hfa2⟩:=List.nodup_cons.1 hfa;have hps7':=hps7.tail (by rw[ah _ _ (Ne.symm hgt.1)];exact pc hgt.2 Z4.2.2.2.2.2);obtain⟨xf,f1,f2⟩:=hps7'.cw tf _ (ai _ _ _) rfl;obtain rfl:xf=.func (.yield l) #[] #[]:=f1;obtain⟨us,u1,u2,hps8⟩:=PS.zip (hps7'.tail (pc hfa1 Z4.2.2.2.1)) hfa2 hfl Z4.2.2.1;have hw:∀(a:Act) (o:Oper),o.guard=some (j,true)->a.tmps[dg]? = some (.bool true)->Region.wanted o (yielded ops a.tmps)=true:=λa o ho h=>(by unfold Region.wanted;rw[ho];simp[hyl a true h]);have hput:∀(a:Act) (d:Tmp) (v:Value),dg≠d->a.tmps[dg]? = some (.bool true)->(a.put (some d) v).tmps[dg]? = some (.bool true):=λa d v XW h=>(by show (a.tmps.setIfInBounds d v)[dg]? = _;rw[M' (Ne.symm XW)];exact h);rw[Xl (hw _ _ rfl g2)];refine(IY Y hj7 (hk rfl) u1 (iy f2) (by simp[<-u2,Function.comp_def])).mono ?_;rintro a8 W8 ⟨rfl,hj8⟩;have g3:=hput a7 dy (.bool true) hgd.1 g2;rw[Xl (hw _ _ rfl g3)];have hps10:=(hps8.later Y hj8).put (v:=.bool true) Z4.1;have hev1:(a7.put (some dy) (.bool true)).eval (.tmp dy)=.bool true:=sq (by rw[hps8.sz];exact hdy);refine Cf (v:=.bool false) (by simp only[execOp,hev1];exact trivial) (λW1=>AO (by rw[hev1];rfl)) λW9 r9=>?_;have hj9:=Y.later hj8 r9;have g4:=hput _ dn (.bool false) hgd.2 g3;have hps11:=((hps10.later Y hj9).put (v:=.bool false) Z4.2.1)
  rw[Xl (eD rfl)];have hev2:((a7.put (some dy) (.bool true)).put (some dn) (.bool false)).eval (.tmp dn)=.bool false:=sq (by rw[hps10.sz];exact hdn);refine Cf (v:=.bool false) ?_ (λW1=>by rw[pn (b:=true) (iy g4),Xl rfl,hev2]) λW10 r10=>?_;have Z1:=iy g4;simp only[execOp];exact aa (by rw[Z1];trivial) λb=>trivial;have hj10:=Y.later hj9 r10;exact⟨trivial,sq (by rw[hps11.sz];exact hdp),z7,hj10,((hps11.later Y hj10).put Z4.2.2.2.2.1)⟩
theorem O2{gf:FuncId}{fn:Func}{A T B S:Code}{cT:Tmp}{b0 b1:Nat}{cap:List SV}(hI:eT C I)(hm:C.P.follows .mixedOrders=true)(hf:C.P.funcs[gf]? = some fn)(hb:fn.body=some (.seq A (.block b0 (.loop (.seq T (.seq (.cond (.tmp cT) .skip (.exit b0)) (.seq (.block b1 B) S)))))))(hres:fn.results=#[])(hlen:Nat.ble (cap.length+1) fn.ntmps=true)(hBA:dL h.fl A=true)(hBT:dL h.fl T=true)(hBS:dL h.fl S=true)(N:Nat)(cnt:Nat->Nat)(f:Nat->List SV)(SL:Nat->Nat->List (Nat×Slot))(hcp:dB cap=true)(hSp:∀l i,fV (SL l i)=true)(hSr:∀l i,rgB 0 (SL l i)=true)(hSd:∀l i,look (SL l i) cT=none)(h0:cnt 0=0)(hA:∀l,ev Γ fn.ntmps 0 I inls h A ⟨bw 0 (.v (.func (.yield l) #[] #[])::cap),[],0,0,[],[]⟩ λe st=>match e with|.normal=>cov (SL l 0) st|_=>False)(hT:∀l i,i<=N->ev Γ fn.ntmps 0 I inls h T ⟨SL l i,[],0,0,[],[]⟩ λe st=>match e with|.normal=>cov ((cT,⟨0,0,[],.v (.bool (decide (i<N)))⟩)::SL l i) st|_=>False)(hB:∀l J,vt C l (cnt N) f J->∀i z a W,i<N->J z (cnt i) W->PS C fn.ntmps z (SL l i) a W->wpR C.P C.co B (λe a' W'=>(e=.normal∨e=.exit b1)∧∃z',J z' (cnt (i+1)) W'∧PS C fn.ntmps z' (SL l i) a' W') a W)(hS:∀l i,i<N->ev Γ fn.ntmps 0 I inls h S ⟨SL l i,[],0,0,[],[]⟩ λe st=>match e with|.normal=>cov (SL l (i+1)) st|_=>False) :
  T9 C gf cap (cnt N) f:=by
 intro l J z W vs Ym hJ hfacts hgrow hround;have Y:vt C l (cnt N) f J:=⟨hfacts,hgrow,hround⟩
 have hlen:=F4 hlen;have hvl:=aB Ym;have hd0:∀{z:Nat->Nat->Value->Prop},∀n b,(aI z).YE.n n=some b->n<0:=λn b h=>by cases h
 have Zk:∀{z:Nat->Nat->Value->Prop},∀e l,(aI z).YE.v e=some l->e<0∧l.o<0:=λn b h=>by cases h
 have ZN:∀{z:Nat->Nat->Value->Prop},∀m i l,(aI z).YE.k m i=some l->m<0:=λn b m h=>by cases h
 refine pC hf hb (wpR.toJ ?_)
 -- ahead of the loop
 obtain⟨a0,ha0⟩:∃a0:Act,a0 = {tmps:=((#[.func (.yield l) #[] #[]]:Array Value)++vs.toArray)++Array.replicate (fn.ntmps-((#[.func (.yield l) #[] #[]]:Array Value)++vs.toArray).size) undef,defers:=[]}:=⟨_,rfl⟩
 rw[<-ha0];have hps0:PS C fn.ntmps z (bw 0 (.v (.func (.yield l) #[] #[])::cap)) a0 W:=by obtain⟨f1,f2⟩:=hfacts _ _ _ hJ;refine⟨f1,f2,by rw[ha0];simp;omega,by rw[ha0],λt s hs hg=>?_⟩;obtain⟨i,v,rfl,hv,rfl⟩:=di hs;obtain⟨u,h1,h2⟩:=eu (aN (x:=.v (.func (.yield l) #[] #[])) (a:=.func (.yield l) #[] #[]) rfl Ym) hv;refine⟨u,h2,?_⟩;have hl:i<vs.length+1:=(by have:=(F3.1 h1).1;simpa using this);rw[ha0,B'];show (((#[.func (.yield l) #[] #[]]:Array Value)++vs.toArray)++Array.replicate _ undef)[i]? = some u;rw[Array.getElem?_append_left (by simp;omega)];rw[<-h1];simp[<-Array.getElem?_toList]
 have hrg0:rgB 0 (bw 0 (.v (.func (.yield l) #[] #[])::cap))=true:=by
  have:∀(l:List SV) (k:Nat),rgB 0 (bw k l)=true:=by
   intro l
   induction l with
   | nil=>intro k;rfl
   | cons x r ih=>intro k;simp only[bw,rgB];exact ih (k+1)
  exact this _ _
 refine jK (eN (dQ hI hm hd0 Zk ZN A _ _ hBA (hA l) _ a0 W (hps0.rp hrg0)) ?_);rintro e a1 W1 ⟨x,st,ρ,rfl,hk,hr⟩;cases x with
 | exit i=>exact hk.elim
 | ret=>exact hk.elim
 | normal=>
 obtain⟨z1,hj1,hps1⟩:=Y.adv hJ hr hk (hSp l 0);refine pM (sV (λm a W=>∃i z,N-i=m∧i<=N∧J z (cnt i) W∧PS C fn.ntmps z (SL l i) a W) N ⟨0,z1,rfl,F9 _,by rw[h0];exact hj1,hps1⟩ ?_);rintro m a W ⟨i,z,hm',hi,hj,hps⟩;refine jK (eN (dQ hI hm hd0 Zk ZN T _ _ hBT (hT l i hi) _ a W (hps.rp (hSr l i))) ?_);rintro e a2 W2 ⟨x,st,ρ,rfl,hk,hr⟩;cases x with
 | exit i=>exact hk.elim
 | ret=>exact hk.elim
 | normal=>
 obtain⟨z2,hj2,hps2⟩:=Y.adv hj hr hk (by simp only[fV,mu];exact hSp l i);obtain⟨xb,YB,Yi⟩:=hps2.cw cT _ (ai _ _ _) rfl;obtain rfl:xb=.bool (decide (i<N)):=YB;have hps3:=hps2.tail (hSd l i);by_cases hiN:i<N
 rotate_left
 ·-- the end
  obtain rfl:i=N:=(by omega);refine jK (jl (by rw[iy Yi];simp) (y7 ?_));show (if b0=b0 then _ else _);rw[Xl rfl];exact⟨hps2.df,_,results_none hres _ _ _,⟨_,rfl⟩,z2,hj2⟩
 refine jK (jY (by rw[iy Yi];simp[hiN]) (sU ?_));show wpR _ _ _ _ _ _;refine jK (pM (eN (hB l J Y i z2 a2 W2 hiN hj2 hps3) ?_));rintro e a3 W3 ⟨he,z3,hj3,hp3⟩;have hrest:wpR C.P C.co S (Exit.then (λa' W'=>∃m',m'<m∧∃i z,N-i=m'∧i<=N∧J z (cnt i) W'∧PS C fn.ntmps z (SL l i) a' W') (Exit.inBlock b0 (qL C.P C.co fn λe W'=>(∃v,e=.returned v)∧∃z,J z (cnt N) W'))) a3 W3:=by
  refine eN (dQ hI hm hd0 Zk ZN S _ _ hBS (hS l i hiN) _ a3 W3 (hp3.rp (hSr l i))) ?_;rintro e a4 W4 ⟨x,st,ρ,rfl,hk,hr⟩;cases x with
  | exit i=>exact hk.elim
  | ret=>exact hk.elim
  | normal=>
  obtain⟨z4,hj4,hps4⟩:=Y.adv hj3 hr hk (hSp l (i+1));exact⟨N-(i+1),by omega,i+1,z4,rfl,by omega,hj4,hps4⟩
 rcases he with rfl|rfl;exact hrest;show (if b1=b1 then _ else _);rw[Xl rfl];exact hrest
end
structure YG {PP:Program} {C:Cx PP} (Γ:List (XR C)) (nt:Nat) (I:Inl) (inls:List Nat) (sp:Bool) (ops:Array Oper) (draw:Bool) (nh m:Nat) (c:Bool) (dg tf:Tmp) (l:Nat) (tas:List Nat) (args:List SV) (sl:List (Nat×Slot)) (st:St):Prop where
 h:kK Γ nt I inls sp ops draw nh m st (λst=>match c with
   | true=>cov ((dg,⟨0,0,[],.v (.bool true)⟩)::(tf,⟨0,0,[],.v (.func (.yield l) #[] #[])⟩)::(jk 0 tas args++sl)) st
   | false=>cov ((dg,⟨0,0,[],.v (.bool false)⟩)::sl) st)
def VS(ops:Array Oper)(m j:Nat)(dy dn dp dg tf:Tmp)(tas:List Nat):Prop:=∃(ats:Array TypeId) (tyY tyN tN tyP:TypeId) (posY posN posP:String) (afterY afterN afterP:Array Edge),ops.toList.drop m=[⟨some dy,.call ⟨.value (.tmp tf),(tas.map Operand.tmp).toArray,ats⟩,tyY,posY,afterY,some (j,true)⟩,⟨some dn,.unOp .not tN (.tmp dy),tyN,posN,afterN,some (j,true)⟩,⟨some dp,.pick (.tmp dg) (.tmp dn) (.const (.bool false)),tyP,posP,afterP,none⟩]
section
variable {z:Nat->Nat->Value->Prop}{sl:List (Nat×Slot)}{W:World}{k:Nat}{f:Nat->List SV}{J:(Nat->Nat->Value->Prop)->Nat->World->Prop}
theorem B7(Y:vt C l n f J)(hI:eT C I)(hm:C.P.follows .mixedOrders=true){dy:Tmp}{tas:List Nat}{args:List SV}(hd:VS ops m j dy dn dp dg tf tas)(hg:(ops[j]?).bind (·.dst)=some dg)(hgd:dg≠dy∧dg≠dn)(hgt:dg≠tf∧dg ∉ tas)(hB:draw=true->kG ops nh=true)(hnm:nh<=m)(hms:ops.toList.length=m+3)(hdy:Nat.ble (dy+1) nt=true)(hdn:Nat.ble (dn+1) nt=true)(hdp:Nat.ble (dp+1) nt=true)(Z4:look sl dy=none∧look sl dn=none∧(∀t∈tas,look sl t=none)∧look sl tf=none∧look sl dp=none∧look sl dg=none)(hfa:(tf::tas).Nodup)(hfl:tas.length=args.length)(hfp:dB args=true)(hsp:fV sl=true)(hk:c=true->k<n∧f k=args)(hj:J z k W)(hR:Rp C nt W (aI z).YE st ρ a W')(he:YG Γ nt I inls sp ops draw nh m c dg tf l tas args sl st) :
  wpR C.P C.co (.region id ops draw) (λe a' W'=>e=.normal∧a'.eval (.tmp dp)=.bool false∧∃z',J z' (bif c then k+1 else k) W'∧PS C nt z' sl a' W') a W':=by
 obtain⟨ats,tyY,tyN,tN,tyP,posY,posN,posP,afterY,afterN,afterP,hd⟩:=hd;have hms':m<=ops.toList.length:=by omega
 have h1:dy<nt:=F4 hdy;have h2:dn<nt:=F4 hdn;have h3:dp<nt:=F4 hdp;have he:=he.h;cases c with
 | true=>
  obtain⟨Ze,hk2⟩:=hk rfl;subst hk2;exact v7 (c:=true) Y hI hm hd hg hgd hgt hB hnm hms' h1 h2 h3 Z4 hfa hfl hfp hsp (λ_=>Ze) hj hR he
 | false=>
  obtain⟨f',rfl⟩:∃f':Nat->List SV,args=f' k:=⟨λ_=>args,rfl⟩
  have Y':vt C l 0 f' J:=⟨Y.facts,Y.grow,λz k W us _ hk=>P' hk (F1 _)⟩
  exact v7 (c:=false) Y' hI hm hd hg hgd hgt hB hnm hms' h1 h2 h3 Z4 hfa hfl hfp hsp (λh=>(by cases h)) hj hR he
end
theorem wW{α:Type}{f:Nat->α}{g:Nat->Bool}{d:α}{i:Nat}(hg:g i=true):∀n,i<n->(fP f g n).getD (fP f g i).length d=f i∧(fP f g i).length<(fP f g n).length
 | 0,h=>P' h (F1 i)
 | n+1,h=>by
  rcases Xs (Nat.le_of_lt_succ h) with rfl|h1;rw[jg hg];simp;obtain⟨k1,k2⟩:=wW (f:=f) (d:=d) hg n h1;cases hn:g n with
  | true=>
   rw[jg hn];refine⟨?_,by simp;omega⟩;rw[<-k1];simp[List.getD_eq_getElem?_getD,F5 k2]
  | false=>rw[mH hn];exact⟨k1,k2⟩
def lpW:Code->Code|.block _ (.loop c)=>c|_=>.skip
def bkW:Code->Code|.block _ c=>c|_=>.skip
def rgW:Code->Array Oper|.region _ o _=>o|_=>#[]
def iwB:Code:=eK Tryz.f119
def wsL:Code:=lpW (X3 iwB)
def wsB:Code:=bkW (X6 (X3 (X3 wsL)))
def ws3:Array Oper:=rgW (X6 (X3 wsB))
def IZ(c:fG)(o:Int)(l i:Nat):List (Nat×Slot):=[sl 0 (.v (.func (.yield l) #[] #[])),sl 1 (.rp [c.sv] 0),sl 2 (.rp [.il .u8 o] 0),sl 6 c.sv,sl 7 (i64 c.n),sl 8 (i64 i)]
theorem RN:wsB=.seq (X6 wsB) (.seq (.region 3 ws3 false) (.cond (.tmp 32) .ret .skip)):=by kernel_rfl
def wI:Inl:=jB (C:=cx) [] [] 0
def wH:How:=⟨[1003],[],[],0⟩
theorem RJ:ws3.toList.length=18+3:=by kernel_rfl
theorem RM:(ws3[14]?).bind (·.dst)=some 26:=by kernel_rfl
theorem RL:VS ws3 18 14 30 31 32 26 27 [29]:=⟨_,_,_,_,_,_,_,_,_,_,_,by rfl⟩
theorem QG{a b d:Bool}(h:d=(a&&(b&&c)))(h1:a=true)(h2:b=true):d=c:=by rw[h,h1,h2];rfl
theorem RD{a b d:Bool}(h:d=(a&&(b&&c)))(h1:a=false):d=false:=by rw[h,h1];rfl
theorem RB{a b d:Bool}(h:d=(a&&(b&&c)))(h1:a=true)(h2:b=false):d=false:=by rw[h,h1,h2];rfl
set_option maxHeartbeats 2000000 in
theorem Gu(c:fG)(o:Int)(ho:o=4∨o=5)(l i:Nat)(hn:(c.n:Int)<=4000)(hi:i<c.n):ev (C:=cx) [] Tryz.f119.ntmps 0 wI [] wH (X6 wsB) ⟨IZ c o l i,[],0,0,[],[]⟩ (λx st=>match x with
  | .normal=>YG (C:=cx) [] Tryz.f119.ntmps wI [] true ws3 false 0 18 (isW o (c.e i)) 26 27 l [29] [i64 (c.e i).a] (IZ c o l i) st
  | _=>False):=by
 obtain⟨d,hd⟩:∃d,d=isW o (c.e i):=⟨_,rfl⟩
 rw[<-hd];unfold isW at hd;rcases ho with rfl|rfl
 ·refine Ai ⟨by omega,by omega⟩ ?_;refine YG.mk ?_;refine Ai (λh1=>?_) (λh1=>?_)
  ·refine Ai (λh2=>?_) (λh2=>?_)
   ·refine Ai (λh3=>?_) (λh3=>?_)
    ·obtain rfl:d=true:=(QG hd h1 h2).trans h3;refine⟨[],[],?_⟩;repeat' first|apply Ai|exact rfl|intro
    obtain rfl:d=false:=(QG hd h1 h2).trans h3;refine⟨[],[],?_⟩;repeat' first|apply Ai|exact rfl|intro
   obtain rfl:d=false:=RB hd h1 h2;refine⟨[],[],?_⟩;repeat' first|apply Ai|exact rfl|intro
  obtain rfl:d=false:=RD hd h1;refine⟨[],[],?_⟩;repeat' first|apply Ai|exact rfl|intro
 refine Ai ⟨by omega,by omega⟩ ?_;refine YG.mk ?_;refine Ai (λh1=>?_) (λh1=>?_)
 ·refine Ai (λh2=>?_) (λh2=>?_)
  ·refine Ai (λh3=>?_) (λh3=>?_)
   ·obtain rfl:d=true:=(QG hd h1 h2).trans h3;refine⟨[],[],?_⟩;repeat' first|apply Ai|exact rfl|intro
   obtain rfl:d=false:=(QG hd h1 h2).trans h3;refine⟨[],[],?_⟩;repeat' first|apply Ai|exact rfl|intro
  obtain rfl:d=false:=RB hd h1 h2;refine⟨[],[],?_⟩;repeat' first|apply Ai|exact rfl|intro
 obtain rfl:d=false:=RD hd h1;refine⟨[],[],?_⟩;repeat' first|apply Ai|exact rfl|intro
set_option maxHeartbeats 4000000 in
theorem KN(c:fG)(o:Int)(ho:o=4∨o=5)(hn:(c.n:Int)<=4000):T9 cx 119 [.rp [c.sv] 0,.rp [.il .u8 o] 0] (gY o c c.n).length (λk=>[i64 ((gY o c c.n).getD k 0)]):=by
 refine O2 (Γ:=[]) (I:=wI) (inls:=[]) (h:=wH) (fn:=Tryz.f119) (A:=X6 iwB) (T:=X6 wsL) (B:=wsB) (S:=X3 (X3 (X3 wsL))) (cT:=9) (b0:=0) (b1:=1) (cX follows 0) follows Tryz.func119 (by kernel_rfl) rfl (by kernel_rfl) (by kernel_rfl) (by kernel_rfl) (by kernel_rfl)
  c.n (λi=>(gY o c i).length) _ (IZ c o) (by rfl) (λ_ _=>by rfl) (λ_ _=>by rfl) (λ_ _=>by rfl) (by rfl) ?_ ?_ ?_ ?_
 ·intro l;refine⟨[],[],?_⟩;repeat' first|apply Ai|exact rfl|intro
 ·intro l i hi;refine⟨[],[],?_⟩;repeat' first|apply Ai|exact rfl|intro
  all_goals exact decide_eq_decide.2 (by omega)
 ·intro l J Y i z a W hi hj hps;rw[RN];have hd0:∀n b,(aI z).YE.n n=some b->n<0:=λn b h=>(by cases h);have Zk:∀e l,(aI z).YE.v e=some l->e<0∧l.o<0:=λn b h=>(by cases h);have ZN:∀m i l,(aI z).YE.k m i=some l->m<0:=λn b m h=>(by cases h);have hcn:isW o (c.e i)=true->(gY o c (i+1)).length=(gY o c i).length+1∧(gY o c i).length<(gY o c c.n).length∧(λk=>[i64 ((gY o c c.n).getD k 0)]) (gY o c i).length=[i64 (c.e i).a]:=λhw=>(by obtain⟨k1,k2⟩:=wW (f:=λi=>(c.e i).a) (g:=λi=>isW o (c.e i)) (d:=0) hw _ hi;exact⟨by unfold gY;rw[jg hw];simp,k2,O' (λb:Int=>[i64 b]) k1⟩);refine jK (eN (dQ (Γ:=[]) (I:=wI) (inls:=[]) (h:=wH) (nm0:=0) (cX follows 0) follows hd0 Zk ZN (X6 wsB) ⟨IZ c o l i,[],0,0,[],[]⟩ _ (by kernel_rfl) (Gu c o ho l i hn hi) _ a W (hps.rp rfl)) ?_);rintro e a1 W1 ⟨x,st,ρ,rfl,hk,hr⟩;cases x with
  | exit j=>exact hk.elim
  | ret=>exact hk.elim
  | normal=>
  have ZH:YG (C:=cx) [] Tryz.f119.ntmps wI [] true ws3 false 0 18 (isW o (c.e i)) 26 27 l [29] [i64 (c.e i).a] (IZ c o l i) st:=hk;have hY:=B7 (id:=3) Y (Γ:=[]) (I:=wI) (inls:=[]) (cX follows 0) follows RL RM ⟨by decide,by decide⟩ ⟨by decide,by decide⟩ (λh=>by cases h) (by decide) RJ (by kernel_rfl) (by kernel_rfl) (by kernel_rfl) ⟨rfl,rfl,λt ht=>by obtain rfl:=List.mem_singleton.1 ht;rfl,rfl,rfl,rfl⟩ (by decide) rfl rfl rfl (λh=>(hcn h).2) hj hr ZH;refine jK (eN hY ?_);rintro e a2 W2 ⟨rfl,hv,z',hj',hp'⟩;refine jl hv (sU ⟨.inl rfl,z',?_,hp'⟩);cases hw:isW o (c.e i) with
  | true=>rw[(hcn hw).1];rw[hw] at hj';exact hj'
  | false=>
   have e:gY o c (i+1)=gY o c i:=mH hw;rw[hw] at hj';rw[e];exact hj'
 intro l i hi;refine Ai (by unfold XT;omega:XT ((i:Int)+1)) ?_;refine⟨[],[],?_⟩;repeat' first|apply Ai|exact rfl|intro
section
variable {nm0:Nat}{E:Goroutine->World->Prop}{b:Frame}{k:List Item}{cs:List Frame}
theorem BB(hE:Closed C.P C.co E)(hI:eT C I)(hm:C.P.follows .mixedOrders=true)(hb:b.kind≠.early)(hr:b.roundOf=none){x:Code}(hB:dL h.fl x=true){Ds:List Nat}{W:World}(A:AtR C nt w0 XN nm0 Ds st ρ a W)(he:ev Γ nt nm0 I inls h x st (λe X4=>e=.normal∧ct.at_ nm0 X4 λ_=>True))(next:∀u XM a' W',ct.P u->AtR C nt w0 XN nm0 Ds (ct.J u) XM a' W'->E (G (b.at a' k) cs) W'):E (G (b.at a (.code x::k)) cs) W:=by
 refine ew hE hI hm hb hr hB A he λe X4 XM a' W' hk A'=>?_;obtain⟨rfl,hk⟩:=hk;obtain⟨w1,Yj,m1,mk,hR⟩:=A'.ex;obtain⟨u,Y1,-,hp,hR2⟩:=hk.rp (XN:=Yj.dd (Ds.map mz)) m1.dom m1.domv m1.domk hR;exact⟨trivial,next u Y1 a' W' hp ⟨⟨w1,Yj,m1,mk,hR2⟩,A'.nd⟩⟩
theorem Mz(hE:Closed C.P C.co E)(hI:eT C I)(hm:C.P.follows .mixedOrders=true)(hb:b.kind≠.early)(hr:b.roundOf=none){x:Code}{k':List Item}(hx:exitTo j k=some k')(hB:dL h.fl x=true){Ds:List Nat}{W:World}(A:AtR C nt w0 XN nm0 Ds st ρ a W)(he:ev Γ nt nm0 I inls h x st (λe X4=>e=.exit j∧ct.at_ nm0 X4 λ_=>True))(next:∀u XM a' W',ct.P u->AtR C nt w0 XN nm0 Ds (ct.J u) XM a' W'->E (G (b.at a' k') cs) W'):E (G (b.at a (.code x::k)) cs) W:=by
 refine ew hE hI hm hb hr hB A he λe X4 XM a' W' hk A'=>?_;obtain⟨rfl,hk⟩:=hk;obtain⟨w1,Yj,m1,mk,hR⟩:=A'.ex;obtain⟨u,Y1,-,hp,hR2⟩:=hk.rp (XN:=Yj.dd (Ds.map mz)) m1.dom m1.domv m1.domk hR;exact⟨trivial,k',hx,next u Y1 a' W' hp ⟨⟨w1,Yj,m1,mk,hR2⟩,A'.nd⟩⟩
end
def S8:Y0 cx:=⟨88,Tryz.call88,Tryz.f88,Tryz.func88,[],[],[],0,by kernel_rfl⟩
def mkF:List (Y0 cx):=[S8]
def mkI:Inl:=jB (C:=cx) [] mkF 1
def ZZ:How:=⟨[7,9],[],[],1⟩
def UG:Code->Array Tmp|.block _ (.rangeFunc _ p _ _)=>p|_=>#[]
def R8:Code->Code|.block _ (.rangeFunc _ _ a _)=>a|_=>.skip
def R7:Code->Code|.block _ (.rangeFunc _ _ _ b)=>b|_=>.skip
def mB:Code:=eK Tryz.f68
def m1:Code:=X3 mB
def m2:Code:=X3 m1
def mL:Code:=lpW (X3 (X6 m2))
def mT:Code:=X3 m2
def mL2:Code:=X3 mL
def mC:Code:=X6 mL2
def mBB:Code:=bkW (X6 (X3 mL2))
def m8:Code:=X3 (X3 mL2)
def m5:Code:=X3 mBB
def mR:Code:=X3 m5
def Wv:Code:=.seq (X6 mB) (.seq (X6 m1) (X6 (X6 m2)))
theorem Ve:mB=.seq (X6 mB) m1:=by kernel_rfl
theorem Vg:m1=.seq (X6 m1) m2:=by kernel_rfl
theorem Vf:m2=.seq (.seq (X6 (X6 m2)) (.block 0 (.loop mL))) mT:=by kernel_rfl
theorem Rg:mL=.seq (X6 mL) mL2:=by kernel_rfl
theorem Kq:mL2=.seq mC (.seq (.block 1 mBB) m8):=by kernel_rfl
theorem Ks:mBB=.seq (X6 mBB) m5:=by kernel_rfl
theorem Rh:m5=.seq (X6 m5) mR:=by kernel_rfl
theorem Rf:mR=.block 2 (.rangeFunc (.tmp 17) (UG mR) (R8 mR) (R7 mR)):=by kernel_rfl
theorem Re:UG mR=[18].toArray:=by kernel_rfl
def mSl(c:fG)(n:Int):List (Nat×Slot):=[sl 0 c.sv,sl 4 (.p 0 0),sl 8 (.s 1 1 0 2 2),sl 9 (.il .i64 2),sl 10 (.il .i64 n)]
def mHp(x y:Int):aU:=[(0,.lay [.v (.int .u32 x),.v (.int .u32 y)] 166),(1,.lay [.il .u8 4,.il .u8 5] 5)]
def mC0(c:fG)(n x y:Int)(m:Nat):Cut:=⟨Unit,λ_=>True,λ_=>⟨mSl c n,mHp x y,m,0,[],[]⟩,λ_=>0⟩
def Kr(c:fG)(o:Int):SV:=.f (.func 119) [] [.rp [c.sv] 0,.rp [.il .u8 o] 0]
def mCR(c:fG)(n o x y:Int)(q:Nat):Cut:=⟨Unit,λ_=>True,λ_=>⟨sl 5 (.p q 0)::sl 17 (Kr c o)::mSl c n,(q,.lay [.il .i64 n] 3)::mHp x y,q+1,0,[],[]⟩,λ_=>0⟩
def mRC(c:fG)(n:Int)(q:Nat)(L:Nat)(F:Nat->Int×Int):vu:=⟨Nat,λk=>k<=L,λk=>k,λk=>(q,.lay [.il .i64 n] 3)::mHp (F k).1 (F k).2,λ_=>q+1⟩
theorem Om(c:fG):ev (C:=cx) [] 31 0 mkI (cd mkF) ZZ Wv ⟨bw 0 [c.sv],[],0,0,[],[]⟩ (λx st=>x=.normal∧(mC0 c 0 0 0 2).at_ 0 st λ_=>True):=by refine⟨rfl,(),[],[],trivial,trivial,?_⟩;repeat' first|apply Ai|exact rfl|intro
def wF(o:Int)(c:fG):Nat->Int:=λk=>(gY o c c.n).getD k 0
theorem QX{o:Int}{c:fG}{k:Nat}(hk:k<(gY o c c.n).length):1<=wF o c k∧wF o c k<=31:=by
 have hm:wF o c k∈gY o c c.n:=by unfold wF;rw[List.getD_eq_getElem?_getD,Xt hk];exact List.getElem_mem hk
 obtain⟨i,-,h2,h3⟩:=(wV (f:=λi=>(c.e i).a) (g:=λi=>isW o (c.e i)) _).1 hm;unfold isW at h3;simp only[I',U'] at h3;rw[h2];exact h3.2
theorem SN(c:fG)(x y:Int):ev (C:=cx) [] 31 0 mkI (cd mkF) ZZ (.seq (X6 mL) mC) ⟨mSl c 0,mHp x y,2,0,[],[]⟩ (λe st=>e=.normal∧(mC0 c 0 x y 2).at_ 0 st λ_=>True):=by refine⟨rfl,(),[],[],trivial,trivial,?_⟩;repeat' first|apply Ai|exact rfl|intro
theorem SK(c:fG)(x y:Int):ev (C:=cx) [] 31 0 mkI (cd mkF) ZZ (.seq (X6 mBB) (X6 m5)) ⟨mSl c 0,mHp x y,2,0,[],[]⟩ (λe st=>e=.normal∧(mCR c 0 4 x y 2).at_ 0 st λ_=>True):=by refine⟨rfl,(),[],[.freeze 3,.freeze 4],trivial,trivial,?_⟩;repeat' first|apply Ai|exact rfl|intro
theorem SH(c:fG)(M:Int)(k:Nat)(hk:k<(gY 4 c c.n).length):ev (C:=cx) [] 31 3 mkI (cd mkF) ZZ (R8 mR) ⟨jk 0 [18] [i64 (wF 4 c k)]++(sl 5 (.p 2 0)::sl 17 (Kr c 4)::mSl c 0),(mRC c 0 2 (gY 4 c c.n).length (λk=>(orM (wF 4 c) k,M))).H k,3,0,[],[]⟩ (λe st2=>match e with
  | .normal=>ev (C:=cx) [] 31 3 mkI (cd mkF) ZZ (R7 mR) st2 (λe st3=>match e with
   | .normal=>(mRC c 0 2 (gY 4 c c.n).length (λk=>(orM (wF 4 c) k,M))).at_ 3 (k+1) st3
   | _=>False)
  | _=>False):=by
 have hw:=QX hk;refine Ai (by omega:0<=wF 4 c k) ?_;refine⟨k+1,[],[],rfl,hk,?_⟩;repeat' first|apply Ai|exact rfl|intro
theorem SP(c:fG)(x y:Int):ev (C:=cx) [] 31 3 mkI (cd mkF) ZZ m8 ⟨sl 5 (.p 2 0)::sl 17 (Kr c 4)::mSl c 0,(2,.lay [.il .i64 0] 3)::mHp x y,3,0,[],[]⟩ (λe st=>e=.normal∧(mC0 c 1 x y 3).at_ 3 st λ_=>True):=by refine⟨rfl,(),[],[],trivial,trivial,?_⟩;repeat' first|apply Ai|exact rfl|intro
theorem SM(c:fG)(x y:Int):ev (C:=cx) [] 31 3 mkI (cd mkF) ZZ (.seq (X6 mL) mC) ⟨mSl c 1,mHp x y,3,0,[],[]⟩ (λe st=>e=.normal∧(mC0 c 1 x y 3).at_ 3 st λ_=>True):=by refine⟨rfl,(),[],[],trivial,trivial,?_⟩;repeat' first|apply Ai|exact rfl|intro
theorem SI(c:fG)(x y:Int):ev (C:=cx) [] 31 3 mkI (cd mkF) ZZ (.seq (X6 mBB) (X6 m5)) ⟨mSl c 1,mHp x y,3,0,[],[]⟩ (λe st=>e=.normal∧(mCR c 1 5 x y 3).at_ 3 st λ_=>True):=by refine⟨rfl,(),[],[.freeze 4,.freeze 5],trivial,trivial,?_⟩;repeat' first|apply Ai|exact rfl|intro
theorem SG(c:fG)(M:Int)(k:Nat)(hk:k<(gY 5 c c.n).length):ev (C:=cx) [] 31 4 mkI (cd mkF) ZZ (R8 mR) ⟨jk 0 [18] [i64 (wF 5 c k)]++(sl 5 (.p 3 0)::sl 17 (Kr c 5)::mSl c 1),(mRC c 1 3 (gY 5 c c.n).length (λk=>(M,orM (wF 5 c) k))).H k,4,0,[],[]⟩ (λe st2=>match e with
  | .normal=>ev (C:=cx) [] 31 4 mkI (cd mkF) ZZ (R7 mR) st2 (λe st3=>match e with
   | .normal=>(mRC c 1 3 (gY 5 c c.n).length (λk=>(M,orM (wF 5 c) k))).at_ 4 (k+1) st3
   | _=>False)
  | _=>False):=by
 have hw:=QX hk;refine Ai (by omega:0<=wF 5 c k) ?_;refine⟨k+1,[],[],rfl,hk,?_⟩;repeat' first|apply Ai|exact rfl|intro
theorem SO(c:fG)(x y:Int):ev (C:=cx) [] 31 4 mkI (cd mkF) ZZ m8 ⟨sl 5 (.p 3 0)::sl 17 (Kr c 5)::mSl c 1,(3,.lay [.il .i64 1] 3)::mHp x y,4,0,[],[]⟩ (λe st=>e=.normal∧(mC0 c 2 x y 4).at_ 4 st λ_=>True):=by refine⟨rfl,(),[],[],trivial,trivial,?_⟩;repeat' first|apply Ai|exact rfl|intro
theorem Vd(c:fG)(x y:Int):ev (C:=cx) [] 31 4 mkI (cd mkF) ZZ mL ⟨mSl c 2,mHp x y,4,0,[],[]⟩ (λe st=>e=.exit 0∧(mC0 c 2 x y 4).at_ 4 st λ_=>True):=by refine⟨rfl,(),[],[],trivial,trivial,?_⟩;repeat' first|apply Ai|exact rfl|intro
theorem Vb(c:fG)(x y:Int):ev (C:=cx) [] 31 4 mkI (cd mkF) ZZ mT ⟨mSl c 2,mHp x y,4,0,[],[]⟩ (λe st=>e=.ret∧qy cx Tryz.f68.results.toList st λv=>ae (.tup [.v (.int .u32 x),.v (.int .u32 y)]) st.H v):=by refine⟨rfl,?_⟩;repeat' first|apply Ai|exact rfl|intro
end
end Go.Proofs.YtmdpdknpapjchaaGreatDoor
