/- Company, 66: iterators of any shape. -/
import Derived.Test.YtgigkennhdolpaaGreatDoorM28
import Derived.Test.YtgigkennhdolpaaGreatDoorM19
namespace Go.Proofs.YtgigkennhdolpaaGreatDoor
open Go.Conc Go.RowKit
def fH:List (Nat×Slot)->Bool
 | []=>true
 | (_,s)::r=>match s.g,lF s.v with|[],true=>fH r|_,_=>false
theorem qc{t:Nat}{s:Slot} : ∀{l:List (Nat×Slot)},fH l=true->look l t=some s->lF s.v=true
 | [],_,h=>by cases h
 | (u,x)::r,hp,h=>by simp only[fH] at hp;split at hp;rename_i hv;by_cases e:u=t;subst e;rw[af] at h;obtain rfl:=Oi h;exact hv;rw[ab _ _ e] at h;exact qc hp h;cases hp
structure PS {PP:Program} (C:Cx PP) (nt:Nat) (z:Nat->Nat->Value->Prop) (sl:List (Nat×Slot)) (a:Act) (W:World):Prop where
 grd:C.WT W
 zok:∀b i c,z b i c->W.cell? ⟨b,i,none⟩=some c∧c.oneCell'=true
 sz:a.tmps.size=nt
 df:a.defers=[]
 cA:∀t s,look sl t=some s->s.g=[]->∃x,den (aD z) s.v x∧a.tmps[t]? = some x
def cov(sl:List (Nat×Slot))(st:St):Prop:=∃(σ:List (Nat×Nat)) (t:List Tr),Ge 0 σ ⟨sl,[],0,0,[],[]⟩ (trs 0 t st)
section
variable {PP:Program}{C:Cx PP}{Γ:List (UO C)}{nt:Nat}{I:Ya}{inls:List Nat}{z:Nat->Nat->Value->Prop}{sl:List (Nat×Slot)}{a:Act}{W W':World}
theorem H8{z z':Nat->Nat->Value->Prop}(h:∀b i c,z b i c->z' b i c):(aD z).le (aD z'):=⟨λ_ _ h=>(by cases h),λ_ _ h=>(by cases h),λ_ _ _ h=>(by cases h),h⟩
theorem PS.rp{rg:Nat}(h:PS C nt z sl a W)(hrg:rgB rg sl=true):Rp C nt W (aD z).VE ⟨sl,[],0,rg,[],[]⟩ (aD z) a W:=
 ⟨⟨Mem.refl (fL h.grd h.zok).hb (λn b h=>by cases h) (λe l h=>by cases h) (λm i l h=>by cases h),(fL h.grd h.zok).blk,h.sz,h.df⟩,AQ hrg,h.cA⟩
theorem CQ:∀b,¬iX (aD z).VE b:=λb ho=>by
 rcases ho with ⟨n,ho|⟨e,l,o,h1,-⟩|⟨i,l,o,h1,-⟩⟩|ho
 cases ho;cases h1;cases h1;exact ho
theorem PS.of{st:St}{ρ:Names}(hr:Rp C nt W (aD z).VE st ρ a W')(hc:cov sl st)(hp:fH sl=true) :
  Gr W W'∧∃z':Nat->Nat->Value->Prop,(∀b i c,z' b i c->(z b i c∨W.heap.size<=b)∧W'.cell? ⟨b,i,none⟩=some c∧c.oneCell'=true)∧PS C nt z' sl a W':=by
 obtain⟨σ,t,hle⟩:=hc;obtain⟨Vq,Z1⟩:=vD (t:=t) (nm0:=0) (λn b h=>by cases h) (λe l h=>by cases h) (λm i l h=>by cases h) hr;have WE:=hle.rp (λn b h=>by cases h) (λe l h=>by cases h) (λm i l h=>by cases h) Z1;refine⟨hr.base.mem.keep.G7 CQ,_,λb i c hz=>⟨?_,WE.base.mem.hb.zok b i c hz⟩,WE.base.mem.hb.grd,WE.base.mem.hb.zok,WE.base.sz,WE.base.df,λt s hs hg=>?_⟩;rcases WE.base.mem.zold b i c hz with h|h|h;exact .inl h;exact .inr h;exact Up h (CQ b);obtain⟨x,h1,h2⟩:=WE.cA t s hs hg;exact⟨x,lE _ _ (qc hp hs) h1,h2⟩
theorem PS.tail{t:Nat}{s:Slot}(h:PS C nt z ((t,s)::sl) a W)(hn:look sl t=none):PS C nt z sl a W:=
 ⟨h.grd,h.zok,h.sz,h.df,λt' s' hs hg=>h.cA t' s' (by have:t≠t':=(by rintro rfl;rw[hn] at hs;cases hs);rw[ab _ _ this];exact hs) hg⟩
theorem PS.put{d:Nat}{v:Value}(h:PS C nt z sl a W)(hn:look sl d=none):PS C nt z sl (a.put (some d) v) W:=
 ⟨h.grd,h.zok,by show (a.tmps.setIfInBounds d v).size=nt;simp[h.sz],h.df,λt s hs hg=>by have e:d≠t:=(by rintro rfl;rw[hn] at hs;cases hs);obtain⟨x,h1,h2⟩:=h.cA t s hs hg;exact⟨x,h1,by show (a.tmps.setIfInBounds d v)[t]? = some x;rw[Un e];exact h2⟩⟩
theorem rR{sl:List (Nat×Slot)} : ∀{ps:List Nat} {vs:List SV},da vs=true->fH sl=true->fH (iI 0 ps vs++sl)=true
 | [],_,_,h=>h
 | _::_,[],_,h=>h
 | p::ps,v::vs,hv,h=>by
  have h1:lF v=true∧da vs=true:=by
   unfold da at hv;cases hp:lF v with
   | true=>rw[hp] at hv;exact⟨rfl,hv⟩
   | false=>rw[hp] at hv;cases hv
  show fH ((p,⟨0,0,[],v⟩)::(iI 0 ps vs++sl))=true;simp only[fH,h1.1];exact rR h1.2 h
theorem om{sl:List (Nat×Slot)}{t:Nat} : ∀{ps:List Nat} {vs:List SV},t ∉ ps->look sl t=none->look (iI 0 ps vs++sl) t=none
 | [],_,_,h=>h
 | _::_,[],_,h=>h
 | p::ps,v::vs,hn,h=>by show look ((p,⟨0,0,[],v⟩)::(iI 0 ps vs++sl)) t=none;rw[ab _ _ λe=>hn (by rw[<-e];exact Um ..)];exact om (λhm=>hn (Ux _ hm)) h
theorem PS.zip:∀{ps:List Nat} {vs:List SV},PS C nt z (iI 0 ps vs++sl) a W->ps.Nodup->ps.length=vs.length->(∀t∈ps,look sl t=none)->∃us,aj (aD z) vs us∧ps.map (λt=>a.eval (.tmp t))=us∧PS C nt z sl a W
 | [],[],h,_,_,_=>⟨[],rfl,rfl,h⟩
 | [],v::vs,_,_,hl,_=>by simp at hl
 | p::ps,[],_,_,hl,_=>by simp at hl
 | p::ps,v::vs,h,hn,hl,hs=>by obtain⟨hn1,hn2⟩:=List.nodup_cons.1 hn;have h:PS C nt z ((p,⟨0,0,[],v⟩)::(iI 0 ps vs++sl)) a W:=h;obtain⟨x,x1,x2⟩:=h.cA p _ (af _ _ _) rfl;obtain⟨us,h1,h2,h3⟩:=PS.zip (h.tail (om hn1 (hs p (Um ..)))) hn2 (by simpa using hl) λt ht=>hs t (Ux _ ht);exact⟨x::us,aG x1 h1,by rw[List.map_cons,h2,aU x2],h3⟩
theorem gM{a:Act}{t:Tmp}{x:Value}(h:a.tmps[t]? = some x):a.eval (.tmp t)=x:=aU h
end
theorem lq{P:Program}{co:Bool}{ops:Array Oper}{Q:Exit->Act->World->Prop}{r:List Oper} : ∀(l:List Oper) (a:Act) (w:World),cz P co ops (λ_ a w=>cz P co ops Q r a w) l a w->cz P co ops Q (l++r) a w
 | [],a,w,h=>h
 | o::l,a,w,h=>by have ih:=lq (P:=P) (co:=co) (ops:=ops) (Q:=Q) (r:=r) l;simp only[cz] at h;show cz P co ops Q (o::(l++r)) a w;simp only[cz];split;rename_i hw;rw[Uw hw] at h;exact h.mono λa w h=>ih a w h;rename_i hw;rw[Uv hw] at h;exact ih _ _ h
def jS{PP:Program}{C:Cx PP}(Γ:List (UO C))(nt:Nat)(I:Ya)(inls:List Nat)(sp:Bool)(ops:Array Oper)(draw:Bool)(n m:Nat):St->(St->Prop)->Prop
 | ⟨sl,H,nm,rg,_,_⟩,K=>match draw with
  | false=>match yK rg with|.mk rg'=>sX Γ nt I inls ops.toList sp 0 (ly m ops.toList) ⟨sl,H,nm,rg',[],[]⟩ K|.no=>False
  | true=>match yK rg with
   | .no=>False
   | .mk rg'=>zk (gS Γ nt true ops.toList (ly n ops.toList)) 0 (ly n ops.toList) ⟨sl,H,nm,rg',[],[]⟩
     λst=>sX Γ nt I inls ops.toList sp n (ly (m-n) (ops.toList.drop n)) st K
section
variable {PP:Program}{C:Cx PP}{Γ:List (UO C)}{nt:Nat}{w0:World}{UM ρ:Names}{a:Act}{W:World}{I:Ya}{inls:List Nat}
theorem wS{ops:Array Oper}{n m:Nat}{sp draw:Bool}{id:Nat}{Q:Exit->Act->World->Prop}{st:St}{K:St->Prop}(hI:eu C I)(hm:C.P.follows .mixedOrders=true)(hB:draw=true->jO ops n=true)(X8:n<=m)(hms:m<=ops.toList.length)(h:Rp C nt w0 UM st ρ a W)(he:jS Γ nt I inls sp ops draw n m st K)
  (hQ:∀st ρ a W,K st->Rp C nt w0 UM st ρ a W->cz C.P C.co ops Q (ops.toList.drop m) a W):wpR C.P C.co (.region id ops draw) Q a W:=by
 obtain⟨sl,H,nm,rg,rd,ws⟩:=st;have hi:=h.enter;have hQ':∀st ρ a W,K st->RI C nt w0 UM st ρ a W->cz C.P C.co ops Q (ops.toList.drop m) a W:=λst ρ a W hk hr=>hQ st ρ a W hk hr.leave;cases draw with
 | false=>
  simp only[jS,kK,nZ] at he;refine kV ?_;have:=lq _ _ _ (lU (Q:=λ_ a w=>cz C.P C.co ops Q (ops.toList.drop m) a w) hI hQ' _ _ _ _ _ _ hi he)
  rwa [List.take_append_drop] at this
 | true=>
  unfold jS at he;simp only[kK] at he;have hB:jO ops n=true:=hB rfl;simp only[nZ] at he;have hle:n<=ops.toList.length:=Nat.le_trans X8 hms;have hlen:(ops.toList.take n).length=n:=(by rw[List.length_take];omega);obtain⟨UU,hK⟩:=sY _ (l:=ops.toList.take n) (st0:=⟨sl,H,nm,rg+1,[],[]⟩) (ops.toList.take n) 0 (λj=>by simp) (by simp) he;have F:cH Γ nt ops.toList (ops.toList.take n) ⟨sl,H,nm,rg+1,[],[]⟩ (oS (gS Γ nt true ops.toList (ops.toList.take n)) (ops.toList.take n) ⟨sl,H,nm,rg+1,[],[]⟩):=
   ⟨rfl,λi o ho=>UU i o (Ui _) ho,λt s hs=>by
    have:s.rg<=rg:=h.rgs t s hs;show s.rg≠rg+1;omega,λi o ho=>by
    have hl:i<n:=by have:=(J'.1 ho).1;omega
    rwa [Uy hl] at ho⟩
  refine ln hm λW1 r1=>?_;have hid:=hi.later r1;refine nu (n:=n) hB (λlisted a' W'=>∃UL,HI C nt w0 UM (ops.toList.take n) ⟨sl,H,nm,rg+1,[],[]⟩ (oS (gS Γ nt true ops.toList (ops.toList.take n)) (ops.toList.take n) ⟨sl,H,nm,rg+1,[],[]⟩) ρ a listed UL a' W')
   ⟨ρ,sG F hid (λi=>getD_replicate_false _ i)⟩ ?_ ?_
  intro listed a' W' i o inv hI' Xr ho hu U0 K' ZP;have Zk:(ops.toList.take n)[i]? = some o:=(by rw[Uy Xr];simpa using ho);exact C9 F hlen hid listed a' W' i o inv hI' Xr ho Zk hu U0 K' ZP;intro listed a' W' ⟨UL,hI'⟩ U1;have:=lq _ _ _ (lU (Q:=λ_ a w=>cz C.P C.co ops Q (ops.toList.drop m) a w) hI hQ' _ _ _ UL a' W' (uW F hid hI' (by rw[hlen];exact U1)) hK);have e:(ops.toList.drop n).take (m-n)++ops.toList.drop m=ops.toList.drop n:=by have h1:=List.take_append_drop (m-n) (ops.toList.drop n);rw[List.drop_drop,show n+(m-n)=m by omega] at h1;exact h1
  rwa [e] at this
end
structure tO {PP:Program} (C:Cx PP) (l n:Nat) (f:Nat->List SV) (J:(Nat->Nat->Value->Prop)->Nat->World->Prop):Prop where
 facts:∀z k W,J z k W->C.WT W∧∀b i c,z b i c->W.cell? ⟨b,i,none⟩=some c∧c.oneCell'=true
 grow:∀(z z':Nat->Nat->Value->Prop) k W W',J z k W->Gr W W'->(∀b i c,z' b i c->(z b i c∨W.heap.size<=b)∧W'.cell? ⟨b,i,none⟩=some c∧c.oneCell'=true)->J (λb i c=>z b i c∨z' b i c) k W'
 round:∀z k W us,J z k W->k<n->aj (aD z) (f k) us->Kr C.P C.co l us.toArray W λv W'=>v=.bool true∧J z (k+1) W'
section
variable {PP:Program}{C:Cx PP}{Γ:List (UO C)}{nt:Nat}{I:Ya}{inls:List Nat}{z:Nat->Nat->Value->Prop}{sl:List (Nat×Slot)}{a:Act}{W W':World}{l n k:Nat}{f:Nat->List SV}{J:(Nat->Nat->Value->Prop)->Nat->World->Prop}
theorem tO.adv(Y:tO C l n f J){st:St}{ρ:Names}(hj:J z k W)(hr:Rp C nt W (aD z).VE st ρ a W')(hc:cov sl st)(hp:fH sl=true):∃z',J z' k W'∧PS C nt z' sl a W':=by obtain⟨g,z',h1,h2⟩:=PS.of hr hc hp;have Yf:=Y.grow z z' k W W' hj g h1;obtain⟨f1,f2⟩:=Y.facts _ _ _ Yf;exact⟨_,Yf,f1,f2,h2.sz,h2.df,λt s hs hg=>let ⟨x,q1,q2⟩:=h2.cA t s hs hg;⟨x,bE (H8 λ_ _ _ h=>.inr h) _ _ q1,q2⟩⟩
theorem tO.later(Y:tO C l n f J)(hj:J z k W)(r:Rv W W'):J z k W':=by
 obtain⟨g1,g2⟩:=Y.facts _ _ _ hj;have h:=Y.grow z z k W W' hj (cQ r) (λb i c hz=>⟨.inl hz,(by have Vo:=(g2 b i c hz).1;have hlt8:b<W.heap.size:=(by rcases Nat.lt_or_ge b W.heap.size with h|h;exact h;have hn:W.heap[b]? = none:=Array.getElem?_eq_none h;unfold World.cell? at Vo;simp[hn] at Vo);exact⟨(cell_of_heap (r.same hlt8)).trans Vo,(g2 b i c hz).2⟩)⟩);have e7:(λb i c=>z b i c∨z b i c)=z:=by funext b i c;simp
 rwa [e7] at h
theorem GO(Y:tO C l n f J)(hj:J z k W)(hk:k<n){us:List Value}(hd:aj (aD z) (f k) us){tf:Tmp}{dy:Option Tmp}{ays:Array Operand}{ats:Array TypeId}{ty:TypeId}{pos:String}{after:Array Edge}{g:Option (Nat×Bool)}(hf:a.eval (.tmp tf)=.func (.yield l) #[] #[])(ha:ays.map a.eval=us.toArray) :
  OpJ C.P C.co ⟨dy,.call ⟨.value (.tmp tf),ays,ats⟩,ty,pos,after,g⟩ a W (λa' W'=>a'=a.put dy (.bool true)∧J z (k+1) W'):=by
 have hx:execOp a.eval ⟨dy,.call ⟨.value (.tmp tf),ays,ats⟩,ty,pos,after,g⟩=Instr.yield l us.toArray:=by simp only[execOp,resolve,hf,ha,Deferred.ofValue];simp[invoke]
 refine⟨by rw[hx];exact Ie _ _,λW1 r1=>?_⟩;obtain⟨fn,tmps,VB,body,hy,hr⟩:=Y.round z k W us hj hk hd W1 r1;unfold cR;rw[hx,hy];exact jB.mono hr λv w ⟨e,h⟩=>⟨by rw[e],h⟩
theorem Ay{P:Program}{co:Bool}{o:Oper}{v:Value}{K:Act->World->Prop}(hns:NS P (execOp a.eval o))(e:∀W1,(execOp a.eval o).run P W1=.ok (.value v) W1)(h:∀W1,Rv W W1->K (a.put o.dst v) W1):OpJ P co o a W K:=
 ⟨hns,λW1 r1=>bs (e W1) (h W1 r1)⟩
theorem PS.later(Y:tO C l n f J)(hj:J z k W)(hp:PS C nt z sl a W'):PS C nt z sl a W:=⟨(Y.facts _ _ _ hj).1,(Y.facts _ _ _ hj).2,hp.sz,hp.df,hp.cA⟩
theorem qN{d:Tmp}{v:Value}(h:d<a.tmps.size):(a.put (some d) v).eval (.tmp d)=v:=gM (by show (a.tmps.setIfInBounds d v)[d]? = _;simp[h])
theorem ur(Y:tO C l n f J)(hI:eu C I)(hm:C.P.follows .mixedOrders=true){tf dy dn dp dg:Tmp}{YV:List Nat}{ops:Array Oper}{ats:Array TypeId}{tyY tyN tN tyP:TypeId}{posY posN posP:String}{YE YH YF:Array Edge}{id nh m j:Nat}{sp draw c:Bool}{st:St}{ρ:Names}
  (hd:ops.toList.drop m=[⟨some dy,.call ⟨.value (.tmp tf),(YV.map Operand.tmp).toArray,ats⟩,tyY,posY,YE,some (j,true)⟩,⟨some dn,.unOp .not tN (.tmp dy),tyN,posN,YH,some (j,true)⟩,⟨some dp,.pick (.tmp dg) (.tmp dn) (.const (.bool false)),tyP,posP,YF,none⟩])
  (hg:(ops[j]?).bind (·.dst)=some dg) (hgd:dg≠dy∧dg≠dn) (hgt:dg≠tf∧dg ∉ YV)
  (hB:draw=true->jO ops nh=true) (X8:nh<=m) (hms:m<=ops.toList.length) (hdy:dy<nt) (hdn:dn<nt) (hdp:dp<nt)
  (X7:look sl dy=none∧look sl dn=none∧(∀t∈YV,look sl t=none)∧look sl tf=none∧look sl dp=none∧look sl dg=none) (hfa:(tf::YV).Nodup) (Yq:YV.length=(f k).length) (hfp:da (f k)=true) (hsp:fH sl=true) (hk:c=true->k<n)
  (hj:J z k W) (hR:Rp C nt W (aD z).VE st ρ a W') (he:jS Γ nt I inls sp ops draw nh m st (λst=>match c with
   | true=>cov ((dg,⟨0,0,[],.v (.bool true)⟩)::(tf,⟨0,0,[],.v (.func (.yield l) #[] #[])⟩)::(iI 0 YV (f k)++sl)) st
   | false=>cov ((dg,⟨0,0,[],.v (.bool false)⟩)::sl) st)) :
  wpR C.P C.co (.region id ops draw) (λe a' W'=>e=.normal∧a'.eval (.tmp dp)=.bool false∧∃z',J z' (match c with|true=>k+1|false=>k) W'∧PS C nt z' sl a' W') a W':=by
 have hyl:∀(a:Act) (x:Bool),a.tmps[dg]? = some (.bool x)->yielded ops a.tmps j=some x:=λa x h=>by unfold yielded;rw[hg];show (match a.tmps[dg]? with|some (.bool b)=>some b|_=>none)=_;rw[h]
 refine wS hI hm hB X8 hms hR he λst7 ρ7 a7 W7 hk7 hr7=>?_;rw[hd];simp only[cz];cases c with
 | false=>
  obtain⟨z7,hj7,hps7⟩:=Y.adv hj hr7 hk7 (by simp only[fH,lF];exact hsp);obtain⟨xg,g1,g2⟩:=hps7.cA dg _ (af _ _ _) rfl;obtain rfl:xg=.bool false:=g1;have hps8:=hps7.tail X7.2.2.2.2.2;have hw:∀(a:Act) (o:Oper),o.guard=some (j,true)->a.tmps[dg]? = some (.bool false)->¬Region.wanted o (yielded ops a.tmps)=true:=λa o ho h e=>(by unfold Region.wanted at e;rw[ho] at e;simp[hyl a false h] at e);have Y0:∀(a:Act) (d:Tmp) (v:Value),dg≠d->a.tmps[dg]? = some (.bool false)->(a.put (some d) v).tmps[dg]? = some (.bool false):=λa d v UR h=>(by show (a.tmps.setIfInBounds d v)[dg]? = _;rw[Un (Ne.symm UR)];exact h);rw[Uv (hw _ _ rfl g2)];have g3:=Y0 a7 dy undef hgd.1 g2;rw[Uv (hw _ _ rfl g3)];have g4:=Y0 _ dn undef hgd.2 g3;rw[Uw (dT rfl)];refine Ay (v:=.bool false) ?_ (λW1=>oz (b:=false) (gM g4)) λW9 r9=>?_;have XI:=gM g4;simp only[execOp];exact aa (by rw[XI];trivial) λb=>trivial;have hj9:=Y.later hj7 r9;have q1:=(((hps8.put (v:=undef) X7.1).put (v:=undef) X7.2.1).later Y hj9).put (v:=.bool false) X7.2.2.2.2.1;exact⟨trivial,qN (by have:=hps8.sz;simp[Act.put,this];exact hdp),z7,hj9,q1⟩
 | true=>
  obtain⟨z7,hj7,hps7⟩:=Y.adv hj hr7 hk7 (by simp only[fH,lF];exact rR hfp hsp);obtain⟨xg,g1,g2⟩:=hps7.cA dg _ (af _ _ _) rfl;obtain rfl:xg=.bool true:=g1;obtain⟨hfa1,hfa2⟩:=List.nodup_cons.1 hfa;have hps7':=hps7.tail (by rw[ab _ _ (Ne.symm hgt.1)];exact om hgt.2 X7.2.2.2.2.2);obtain⟨xf,f1,f2⟩:=hps7'.cA tf _ (af _ _ _) rfl;obtain rfl:xf=.func (.yield l) #[] #[]:=f1;obtain⟨us,u1,u2,hps8⟩:=PS.zip (hps7'.tail (om hfa1 X7.2.2.2.1)) hfa2 Yq X7.2.2.1;have hw:∀(a:Act) (o:Oper),o.guard=some (j,true)->a.tmps[dg]? = some (.bool true)->Region.wanted o (yielded ops a.tmps)=true:=λa o ho h=>(by unfold Region.wanted;rw[ho];simp[hyl a true h]);have Y0:∀(a:Act) (d:Tmp) (v:Value),dg≠d->a.tmps[dg]? = some (.bool true)->(a.put (some d) v).tmps[dg]? = some (.bool true):=λa d v UR h=>(by show (a.tmps.setIfInBounds d v)[dg]? = _;rw[Un (Ne.symm UR)];exact h);rw[Uw (hw _ _ rfl g2)];refine(GO Y hj7 (hk rfl) u1 (gM f2) (by simp[<-u2,Function.comp_def])).mono ?_;rintro a8 W8 ⟨rfl,hj8⟩;have g3:=Y0 a7 dy (.bool true) hgd.1 g2;rw[Uw (hw _ _ rfl g3)];have hps10:=(hps8.later Y hj8).put (v:=.bool true) X7.1;have hev1:(a7.put (some dy) (.bool true)).eval (.tmp dy)=.bool true:=qN (by rw[hps8.sz];exact hdy);refine Ay (v:=.bool false) (by simp only[execOp,hev1];exact trivial) (λW1=>Dp (by rw[hev1];rfl)) λW9 r9=>?_;have hj9:=Y.later hj8 r9;have g4:=Y0 _ dn (.bool false) hgd.2 g3;have hps11:=((hps10.later Y hj9).put (v:=.bool false) X7.2.1)
  rw[Uw (dT rfl)];have hev2:((a7.put (some dy) (.bool true)).put (some dn) (.bool false)).eval (.tmp dn)=.bool false:=qN (by rw[hps10.sz];exact hdn);refine Ay (v:=.bool false) ?_ (λW1=>by rw[oz (b:=true) (gM g4),Uw rfl,hev2]) λW10 r10=>?_;have XI:=gM g4;simp only[execOp];exact aa (by rw[XI];trivial) λb=>trivial;have hj10:=Y.later hj9 r10;exact⟨trivial,qN (by rw[hps11.sz];exact hdp),z7,hj10,((hps11.later Y hj10).put X7.2.2.2.2.1)⟩
theorem Me{gf:FuncId}{fn:Func}{A T B S:Code}{cT:Tmp}{b0 b1:Nat}{cap:List SV}{h:XA}
  (hI:eu C I) (hm:C.P.follows .mixedOrders=true) (hf:C.P.funcs[gf]? = some fn)
  (hb:fn.body=some (.seq A (.block b0 (.loop (.seq T (.seq (.cond (.tmp cT) .skip (.exit b0)) (.seq (.block b1 B) S)))))))
  (YY:fn.results=#[]) (hlen:Nat.ble (cap.length+1) fn.ntmps=true)
  (hBA:du h.fl A=true) (hBT:du h.fl T=true) (hBS:du h.fl S=true)
  (N:Nat) (cnt:Nat->Nat) (f:Nat->List SV) (SL:Nat->Nat->List (Nat×Slot)) (hcp:da cap=true)
  (hSp:∀l i,fH (SL l i)=true) (hSr:∀l i,rgB 0 (SL l i)=true) (hSd:∀l i,look (SL l i) cT=none)
  (h0:cnt 0=0)
  (hA:∀l,ev Γ fn.ntmps 0 I inls h A ⟨bL 0 (.v (.func (.yield l) #[] #[])::cap),[],0,0,[],[]⟩ λe st=>match e with|.normal=>cov (SL l 0) st|_=>False)
  (hT:∀l i,i<=N->ev Γ fn.ntmps 0 I inls h T ⟨SL l i,[],0,0,[],[]⟩ λe st=>match e with|.normal=>cov ((cT,⟨0,0,[],.v (.bool (decide (i<N)))⟩)::SL l i) st|_=>False)
  (hB:∀l J,tO C l (cnt N) f J->∀i z a W,i<N->J z (cnt i) W->PS C fn.ntmps z (SL l i) a W->wpR C.P C.co B (λe a' W'=>(e=.normal∨e=.exit b1)∧∃z',J z' (cnt (i+1)) W'∧PS C fn.ntmps z' (SL l i) a' W') a W)
  (hS:∀l i,i<N->ev Γ fn.ntmps 0 I inls h S ⟨SL l i,[],0,0,[],[]⟩ λe st=>match e with|.normal=>cov (SL l (i+1)) st|_=>False) :
  Q1 C gf cap (cnt N) f:=by
 intro l J z W vs VG hJ hfacts hgrow XY;have Y:tO C l (cnt N) f J:=⟨hfacts,hgrow,XY⟩
 have hlen:=L' hlen;have hvl:=aB VG;have Yh:∀{z:Nat->Nat->Value->Prop},∀n b,(aD z).VE.n n=some b->n<0:=λn b h=>by cases h
 have Wl:∀{z:Nat->Nat->Value->Prop},∀e l,(aD z).VE.v e=some l->e<0∧l.o<0:=λn b h=>by cases h
 have Xe:∀{z:Nat->Nat->Value->Prop},∀m i l,(aD z).VE.k m i=some l->m<0:=λn b m h=>by cases h
 refine oD hf hb (wpR.toJ ?_)
 -- ahead of X5 loop
 obtain⟨a0,ha0⟩:∃a0:Act,a0 = {tmps:=((#[.func (.yield l) #[] #[]]:Array Value)++vs.toArray)++Array.replicate (fn.ntmps-((#[.func (.yield l) #[] #[]]:Array Value)++vs.toArray).size) undef,defers:=[]}:=⟨_,rfl⟩
 rw[<-ha0];have hps0:PS C fn.ntmps z (bL 0 (.v (.func (.yield l) #[] #[])::cap)) a0 W:=by obtain⟨f1,f2⟩:=hfacts _ _ _ hJ;refine⟨f1,f2,by rw[ha0];simp;omega,by rw[ha0],λt s hs hg=>?_⟩;obtain⟨i,v,rfl,hv,rfl⟩:=eC hs;obtain⟨u,h1,h2⟩:=ef (aG (x:=.v (.func (.yield l) #[] #[])) (a:=.func (.yield l) #[] #[]) rfl VG) hv;refine⟨u,h2,?_⟩;have hl:i<vs.length+1:=(by have:=(J'.1 h1).1;simpa using this);rw[ha0,B'];show (((#[.func (.yield l) #[] #[]]:Array Value)++vs.toArray)++Array.replicate _ undef)[i]? = some u;rw[Array.getElem?_append_left (by simp;omega)];rw[<-h1];simp[<-Array.getElem?_toList]
 have hrg0:rgB 0 (bL 0 (.v (.func (.yield l) #[] #[])::cap))=true:=by
  have:∀(l:List SV) (k:Nat),rgB 0 (bL k l)=true:=by
   intro l
   induction l with
   | nil=>intro k;rfl
   | cons x r ih=>intro k;simp only[bL,rgB];exact ih (k+1)
  exact this _ _
 refine ja (dY (dC hI hm Yh Wl Xe A _ _ hBA (hA l) _ a0 W (hps0.rp hrg0)) ?_);rintro e a1 W1 ⟨x,st,ρ,rfl,hk,hr⟩;cases x with
 | exit i=>exact hk.elim
 | ret=>exact hk.elim
 | normal=>
 obtain⟨z1,hj1,hps1⟩:=Y.adv hJ hr hk (hSp l 0);refine oK (ry (λm a W=>∃i z,N-i=m∧i<=N∧J z (cnt i) W∧PS C fn.ntmps z (SL l i) a W) N ⟨0,z1,rfl,Ui _,by rw[h0];exact hj1,hps1⟩ ?_);rintro m a W ⟨i,z,hm',hi,hj,Yx⟩;refine ja (dY (dC hI hm Yh Wl Xe T _ _ hBT (hT l i hi) _ a W (Yx.rp (hSr l i))) ?_);rintro e a2 W2 ⟨x,st,ρ,rfl,hk,hr⟩;cases x with
 | exit i=>exact hk.elim
 | ret=>exact hk.elim
 | normal=>
 obtain⟨z2,hj2,hps2⟩:=Y.adv hj hr hk (by simp only[fH,lF];exact hSp l i);obtain⟨xb,VD,Vi⟩:=hps2.cA cT _ (af _ _ _) rfl;obtain rfl:xb=.bool (decide (i<N)):=VD;have hps3:=hps2.tail (hSd l i);by_cases hiN:i<N
 rotate_left
 ·-- X5 end
  obtain rfl:i=N:=(by omega);refine ja (iJ (by rw[gM Vi];simp) (xu ?_));show (if b0=b0 then _ else _);rw[Uw rfl];exact⟨hps2.df,_,results_none YY _ _ _,⟨_,rfl⟩,z2,hj2⟩
 refine ja (jr (by rw[gM Vi];simp[hiN]) (rv ?_));show wpR _ _ _ _ _ _;refine ja (oK (dY (hB l J Y i z2 a2 W2 hiN hj2 hps3) ?_));rintro e a3 W3 ⟨he,z3,hj3,hp3⟩;have hrest:wpR C.P C.co S (Exit.then (λa' W'=>∃m',m'<m∧∃i z,N-i=m'∧i<=N∧J z (cnt i) W'∧PS C fn.ntmps z (SL l i) a' W') (Exit.inBlock b0 (pO C.P C.co fn λe W'=>(∃v,e=.returned v)∧∃z,J z (cnt N) W'))) a3 W3:=by
  refine dY (dC hI hm Yh Wl Xe S _ _ hBS (hS l i hiN) _ a3 W3 (hp3.rp (hSr l i))) ?_;rintro e a4 W4 ⟨x,st,ρ,rfl,hk,hr⟩;cases x with
  | exit i=>exact hk.elim
  | ret=>exact hk.elim
  | normal=>
  obtain⟨z4,hj4,hps4⟩:=Y.adv hj3 hr hk (hSp l (i+1));exact⟨N-(i+1),by omega,i+1,z4,rfl,by omega,hj4,hps4⟩
 rcases he with rfl|rfl;exact hrest;show (if b1=b1 then _ else _);rw[Uw rfl];exact hrest
end
structure YG {PP:Program} {C:Cx PP} (Γ:List (UO C)) (nt:Nat) (I:Ya) (inls:List Nat) (sp:Bool) (ops:Array Oper) (draw:Bool) (nh m:Nat) (c:Bool) (dg tf:Tmp) (l:Nat) (YV:List Nat) (args:List SV) (sl:List (Nat×Slot)) (st:St):Prop where
 h:jS Γ nt I inls sp ops draw nh m st (λst=>match c with
   | true=>cov ((dg,⟨0,0,[],.v (.bool true)⟩)::(tf,⟨0,0,[],.v (.func (.yield l) #[] #[])⟩)::(iI 0 YV args++sl)) st
   | false=>cov ((dg,⟨0,0,[],.v (.bool false)⟩)::sl) st)
def Te(ops:Array Oper)(m j:Nat)(dy dn dp dg tf:Tmp)(YV:List Nat):Prop:=∃(ats:Array TypeId) (tyY tyN tN tyP:TypeId) (posY posN posP:String) (YE YH YF:Array Edge),ops.toList.drop m=[⟨some dy,.call ⟨.value (.tmp tf),(YV.map Operand.tmp).toArray,ats⟩,tyY,posY,YE,some (j,true)⟩,⟨some dn,.unOp .not tN (.tmp dy),tyN,posN,YH,some (j,true)⟩,⟨some dp,.pick (.tmp dg) (.tmp dn) (.const (.bool false)),tyP,posP,YF,none⟩]
section
variable {PP:Program}{C:Cx PP}{Γ:List (UO C)}{nt:Nat}{I:Ya}{inls:List Nat}{z:Nat->Nat->Value->Prop}{sl:List (Nat×Slot)}{a:Act}{W W':World}{l n k:Nat}{f:Nat->List SV}{J:(Nat->Nat->Value->Prop)->Nat->World->Prop}
theorem Ar(Y:tO C l n f J)(hI:eu C I)(hm:C.P.follows .mixedOrders=true){tf dy dn dp dg:Tmp}{YV:List Nat}{ops:Array Oper}{args:List SV}{id nh m j:Nat}{sp draw c:Bool}{st:St}{ρ:Names}
  (hd:Te ops m j dy dn dp dg tf YV) (hg:(ops[j]?).bind (·.dst)=some dg) (hgd:dg≠dy∧dg≠dn) (hgt:dg≠tf∧dg ∉ YV)
  (hB:draw=true->jO ops nh=true) (X8:nh<=m) (hms:ops.toList.length=m+3) (hdy:Nat.ble (dy+1) nt=true) (hdn:Nat.ble (dn+1) nt=true) (hdp:Nat.ble (dp+1) nt=true)
  (X7:look sl dy=none∧look sl dn=none∧(∀t∈YV,look sl t=none)∧look sl tf=none∧look sl dp=none∧look sl dg=none) (hfa:(tf::YV).Nodup) (Yq:YV.length=args.length) (hfp:da args=true) (hsp:fH sl=true) (hk:c=true->k<n∧f k=args)
  (hj:J z k W) (hR:Rp C nt W (aD z).VE st ρ a W') (he:YG Γ nt I inls sp ops draw nh m c dg tf l YV args sl st) :
  wpR C.P C.co (.region id ops draw) (λe a' W'=>e=.normal∧a'.eval (.tmp dp)=.bool false∧∃z',J z' (bif c then k+1 else k) W'∧PS C nt z' sl a' W') a W':=by
 obtain⟨ats,tyY,tyN,tN,tyP,posY,posN,posP,YE,YH,YF,hd⟩:=hd;have hms':m<=ops.toList.length:=by omega
 have h1:dy<nt:=L' hdy;have h2:dn<nt:=L' hdn;have h3:dp<nt:=L' hdp;have he:=he.h;cases c with
 | true=>
  obtain⟨Wi,X1⟩:=hk rfl;subst X1;exact ur (c:=true) Y hI hm hd hg hgd hgt hB X8 hms' h1 h2 h3 X7 hfa Yq hfp hsp (λ_=>Wi) hj hR he
 | false=>
  obtain⟨f',rfl⟩:∃f':Nat->List SV,args=f' k:=⟨λ_=>args,rfl⟩
  have Y':tO C l 0 f' J:=⟨Y.facts,Y.grow,λz k W us _ hk=>Up hk (F' _)⟩
  exact ur (c:=false) Y' hI hm hd hg hgd hgt hB X8 hms' h1 h2 h3 X7 hfa Yq hfp hsp (λh=>(by cases h)) hj hR he
end
set_option maxRecDepth 8000
theorem u7{α:Type}{f:Nat->α}{g:Nat->Bool}{d:α}{i:Nat}(hg:g i=true):∀n,i<n->(fy f g n).getD (fy f g i).length d=f i∧(fy f g i).length<(fy f g n).length
 | 0,h=>Up h (F' i)
 | n+1,h=>by
  rcases UD (Nat.le_of_lt_succ h) with rfl|h1;rw[iB hg];simp;obtain⟨k1,k2⟩:=u7 (f:=f) (d:=d) hg n h1;cases hn:g n with
  | true=>
   rw[iB hn];refine⟨?_,by simp;omega⟩;rw[<-k1];simp[List.getD_eq_getElem?_getD,M' k2]
  | false=>rw[lQ hn];exact⟨k1,k2⟩
def lpW:Code->Code|.block _ (.loop c)=>c|_=>.skip
def bkW:Code->Code|.block _ c=>c|_=>.skip
def rgW:Code->Array Oper|.region _ o _=>o|_=>#[]
noncomputable def iwB:Code:=eG Tryz.f238
noncomputable def wsL:Code:=lpW (U6 iwB)
noncomputable def wsB:Code:=bkW (Ve (U6 (U6 wsL)))
noncomputable def ws3:Array Oper:=rgW (Ve (U6 wsB))
def GR(c:fh)(o:Int)(l i:Nat):List (Nat×Slot):=[sl 0 (.v (.func (.yield l) #[] #[])),sl 1 (.rp [c.sv] 0),sl 2 (.rp [.il .u8 o] 0),sl 6 c.sv,sl 7 (i64 c.n),sl 8 (i64 i)]
theorem OX:wsB=.seq (Ve wsB) (.seq (.region 3 ws3 false) (.cond (.tmp 32) .ret .skip)):=by kernel_rfl
noncomputable def wI:Ya:=jN (C:=cx) [] [] 0
def wH:XA:=⟨[1003],[],[],0⟩
theorem OU:ws3.toList.length=18+3:=by kernel_rfl
theorem OW:(ws3[14]?).bind (·.dst)=some 26:=by kernel_rfl
theorem OV:Te ws3 18 14 30 31 32 26 27 [29]:=⟨_,_,_,_,_,_,_,_,_,_,_,by rfl⟩
theorem S9{a b c d:Bool}(h:d=(a&&(b&&c)))(h1:a=true)(h2:b=true):d=c:=by rw[h,h1,h2];rfl
theorem S8{a b c d:Bool}(h:d=(a&&(b&&c)))(h1:a=false):d=false:=by rw[h,h1];rfl
theorem S7{a b c d:Bool}(h:d=(a&&(b&&c)))(h1:a=true)(h2:b=false):d=false:=by rw[h,h1,h2];rfl
set_option maxHeartbeats 2000000 in
theorem Ej(c:fh)(o:Int)(ho:o=4∨o=5)(l i:Nat)(hn:(c.n:Int)<=4000)(hi:i<c.n):ev (C:=cx) [] Tryz.f238.ntmps 0 wI [] wH (Ve wsB) ⟨GR c o l i,[],0,0,[],[]⟩ (λx st=>match x with
  | .normal=>YG (C:=cx) [] Tryz.f238.ntmps wI [] true ws3 false 0 18 (isW o (c.e i)) 26 27 l [29] [i64 (c.e i).a] (GR c o l i) st
  | _=>False):=by
 obtain⟨d,hd⟩:∃d,d=isW o (c.e i):=⟨_,rfl⟩
 rw[<-hd];unfold isW at hd;rcases ho with rfl|rfl
 ·refine Ai ⟨by omega,by omega⟩ ?_;refine YG.mk ?_;refine Ai (λh1=>?_) (λh1=>?_)
  ·refine Ai (λh2=>?_) (λh2=>?_)
   ·refine Ai (λh3=>?_) (λh3=>?_)
    ·obtain rfl:d=true:=(S9 hd h1 h2).trans h3;refine⟨[],[],?_⟩;repeat' (first|refine Ai ?_ ?_|intro _|exact rfl)
    obtain rfl:d=false:=(S9 hd h1 h2).trans h3;refine⟨[],[],?_⟩;repeat' (first|refine Ai ?_ ?_|intro _|exact rfl)
   obtain rfl:d=false:=S7 hd h1 h2;refine⟨[],[],?_⟩;repeat' (first|refine Ai ?_ ?_|intro _|exact rfl)
  obtain rfl:d=false:=S8 hd h1;refine⟨[],[],?_⟩;repeat' (first|refine Ai ?_ ?_|intro _|exact rfl)
 refine Ai ⟨by omega,by omega⟩ ?_;refine YG.mk ?_;refine Ai (λh1=>?_) (λh1=>?_)
 ·refine Ai (λh2=>?_) (λh2=>?_)
  ·refine Ai (λh3=>?_) (λh3=>?_)
   ·obtain rfl:d=true:=(S9 hd h1 h2).trans h3;refine⟨[],[],?_⟩;repeat' (first|refine Ai ?_ ?_|intro _|exact rfl)
   obtain rfl:d=false:=(S9 hd h1 h2).trans h3;refine⟨[],[],?_⟩;repeat' (first|refine Ai ?_ ?_|intro _|exact rfl)
  obtain rfl:d=false:=S7 hd h1 h2;refine⟨[],[],?_⟩;repeat' (first|refine Ai ?_ ?_|intro _|exact rfl)
 obtain rfl:d=false:=S8 hd h1;refine⟨[],[],?_⟩;repeat' (first|refine Ai ?_ ?_|intro _|exact rfl)
set_option maxHeartbeats 4000000 in
theorem IM(c:fh)(o:Int)(ho:o=4∨o=5)(hn:(c.n:Int)<=4000):Q1 cx 238 [.rp [c.sv] 0,.rp [.il .u8 o] 0] (gq o c c.n).length (λk=>[i64 ((gq o c c.n).getD k 0)]):=by
 refine Me (Γ:=[]) (I:=wI) (inls:=[]) (h:=wH) (fn:=Tryz.f238) (A:=Ve iwB) (T:=Ve wsL) (B:=wsB) (S:=U6 (U6 (U6 wsL))) (cT:=9) (b0:=0) (b1:=1) (c6 follows 0) follows Tryz.func238 (by kernel_rfl) rfl (by kernel_rfl) (by kernel_rfl) (by kernel_rfl) (by kernel_rfl)
  c.n (λi=>(gq o c i).length) _ (GR c o) (by rfl) (λ_ _=>by rfl) (λ_ _=>by rfl) (λ_ _=>by rfl) (by rfl) ?_ ?_ ?_ ?_
 ·intro l;refine⟨[],[],?_⟩;repeat' (first|refine Ai ?_ ?_|intro _|exact rfl)
 ·intro l i hi;refine⟨[],[],?_⟩;repeat' (first|refine Ai ?_ ?_|intro _|exact rfl)
  all_goals exact decide_eq_decide.2 (by omega)
 ·intro l J Y i z a W hi hj Yx;rw[OX];have Yh:∀n b,(aD z).VE.n n=some b->n<0:=λn b h=>(by cases h);have Wl:∀e l,(aD z).VE.v e=some l->e<0∧l.o<0:=λn b h=>(by cases h);have Xe:∀m i l,(aD z).VE.k m i=some l->m<0:=λn b m h=>(by cases h);have hcn:isW o (c.e i)=true->(gq o c (i+1)).length=(gq o c i).length+1∧(gq o c i).length<(gq o c c.n).length∧(λk=>[i64 ((gq o c c.n).getD k 0)]) (gq o c i).length=[i64 (c.e i).a]:=λhw=>(by obtain⟨k1,k2⟩:=u7 (f:=λi=>(c.e i).a) (g:=λi=>isW o (c.e i)) (d:=0) hw _ hi;exact⟨by unfold gq;rw[iB hw];simp,k2,Uo (λb:Int=>[i64 b]) k1⟩);refine ja (dY (dC (Γ:=[]) (I:=wI) (inls:=[]) (h:=wH) (nm0:=0) (c6 follows 0) follows Yh Wl Xe (Ve wsB) ⟨GR c o l i,[],0,0,[],[]⟩ _ (by kernel_rfl) (Ej c o ho l i hn hi) _ a W (Yx.rp rfl)) ?_);rintro e a1 W1 ⟨x,st,ρ,rfl,hk,hr⟩;cases x with
  | exit j=>exact hk.elim
  | ret=>exact hk.elim
  | normal=>
  have WJ:YG (C:=cx) [] Tryz.f238.ntmps wI [] true ws3 false 0 18 (isW o (c.e i)) 26 27 l [29] [i64 (c.e i).a] (GR c o l i) st:=hk;have hY:=Ar (id:=3) Y (Γ:=[]) (I:=wI) (inls:=[]) (c6 follows 0) follows OV OW ⟨by decide,by decide⟩ ⟨by decide,by decide⟩ (λh=>by cases h) (by decide) OU (by kernel_rfl) (by kernel_rfl) (by kernel_rfl) ⟨rfl,rfl,λt ht=>by obtain rfl:=List.mem_singleton.1 ht;rfl,rfl,rfl,rfl⟩ (by decide) rfl rfl rfl (λh=>(hcn h).2) hj hr WJ;refine ja (dY hY ?_);rintro e a2 W2 ⟨rfl,hv,z',Yf,hp'⟩;refine iJ hv (rv ⟨.inl rfl,z',?_,hp'⟩);cases hw:isW o (c.e i) with
  | true=>rw[(hcn hw).1];rw[hw] at Yf;exact Yf
  | false=>
   have e:gq o c (i+1)=gq o c i:=lQ hw;rw[hw] at Yf;rw[e];exact Yf
 intro l i hi;refine Ai (by unfold UP;omega:UP ((i:Int)+1)) ?_;refine⟨[],[],?_⟩;repeat' (first|refine Ai ?_ ?_|intro _|exact rfl)
section
variable {PP:Program}{C:Cx PP}{Γ:List (UO C)}{nt nm0:Nat}{I:Ya}{inls:List Nat}{h:XA}{E:Goroutine->World->Prop}{b:Frame}{k:List Item}{cs:List Frame}{w0:World}{UM:Names}
theorem zQ(hE:Closed C.P C.co E)(hI:eu C I)(hm:C.P.follows .mixedOrders=true)(hb:b.kind≠.early)(hr:b.roundOf=none){x:Code}{st:St}{ct:Cut}(hB:du h.fl x=true){Ds:List Nat}{ρ:Names}{a:Act}{W:World}(A:AtR C nt w0 UM nm0 Ds st ρ a W)(he:ev Γ nt nm0 I inls h x st (λe UZ=>e=.normal∧ct.at_ nm0 UZ λ_=>True))
  (next:∀u UL a' W',ct.P u->AtR C nt w0 UM nm0 Ds (ct.J u) UL a' W'->E (G (b.at a' k) cs) W'):E (G (b.at a (.code x::k)) cs) W:=by
 refine iH hE hI hm hb hr hB A he λe UZ UL a' W' hk A'=>?_;obtain⟨rfl,hk⟩:=hk;obtain⟨w1,Vq,m1,mk,hR⟩:=A'.ex;obtain⟨u,Wy,-,hp,hR2⟩:=hk.rp (UM:=Vq.dd (Ds.map lJ)) m1.dom m1.domv m1.domk hR;exact⟨trivial,next u Wy a' W' hp ⟨⟨w1,Vq,m1,mk,hR2⟩,A'.nd⟩⟩
theorem Kc(hE:Closed C.P C.co E)(hI:eu C I)(hm:C.P.follows .mixedOrders=true)(hb:b.kind≠.early)(hr:b.roundOf=none){x:Code}{st:St}{ct:Cut}{j:Nat}{k':List Item}(hx:exitTo j k=some k')(hB:du h.fl x=true){Ds:List Nat}{ρ:Names}{a:Act}{W:World}(A:AtR C nt w0 UM nm0 Ds st ρ a W)(he:ev Γ nt nm0 I inls h x st (λe UZ=>e=.exit j∧ct.at_ nm0 UZ λ_=>True))
  (next:∀u UL a' W',ct.P u->AtR C nt w0 UM nm0 Ds (ct.J u) UL a' W'->E (G (b.at a' k') cs) W'):E (G (b.at a (.code x::k)) cs) W:=by
 refine iH hE hI hm hb hr hB A he λe UZ UL a' W' hk A'=>?_;obtain⟨rfl,hk⟩:=hk;obtain⟨w1,Vq,m1,mk,hR⟩:=A'.ex;obtain⟨u,Wy,-,hp,hR2⟩:=hk.rp (UM:=Vq.dd (Ds.map lJ)) m1.dom m1.domv m1.domk hR;exact⟨trivial,k',hx,next u Wy a' W' hp ⟨⟨w1,Vq,m1,mk,hR2⟩,A'.nd⟩⟩
end
noncomputable def P5:V3 cx:=⟨195,Tryz.call195,Tryz.f195,Tryz.func195,[],[],[],0,by kernel_rfl⟩
noncomputable def XF:List (V3 cx):=[P5]
noncomputable def XQ:Ya:=jN (C:=cx) [] XF 1
def Xg:XA:=⟨[7,9],[],[],1⟩
def RG:Code->Array Tmp|.block _ (.rangeFunc _ p _ _)=>p|_=>#[]
noncomputable def Pd:Code->Code|.block _ (.rangeFunc _ _ a _)=>a|_=>.skip
noncomputable def Pc:Code->Code|.block _ (.rangeFunc _ _ _ b)=>b|_=>.skip
noncomputable def mB:Code:=eG Tryz.f136
noncomputable def m1:Code:=U6 mB
noncomputable def m2:Code:=U6 m1
noncomputable def mL:Code:=lpW (U6 (Ve m2))
noncomputable def mT:Code:=U6 m2
noncomputable def mL2:Code:=U6 mL
noncomputable def mC:Code:=Ve mL2
noncomputable def mBB:Code:=bkW (Ve (U6 mL2))
noncomputable def m8:Code:=U6 (U6 mL2)
noncomputable def m5:Code:=U6 mBB
noncomputable def mR:Code:=U6 m5
noncomputable def TL:Code:=.seq (Ve mB) (.seq (Ve m1) (Ve (Ve m2)))
theorem Sn:mB=.seq (Ve mB) m1:=by kernel_rfl
theorem Sp:m1=.seq (Ve m1) m2:=by kernel_rfl
theorem So:m2=.seq (.seq (Ve (Ve m2)) (.block 0 (.loop mL))) mT:=by kernel_rfl
theorem Oz:mL=.seq (Ve mL) mL2:=by kernel_rfl
theorem Ix:mL2=.seq mC (.seq (.block 1 mBB) m8):=by kernel_rfl
theorem Iz:mBB=.seq (Ve mBB) m5:=by kernel_rfl
theorem OA:m5=.seq (Ve m5) mR:=by kernel_rfl
theorem Oy:mR=.block 2 (.rangeFunc (.tmp 17) (RG mR) (Pd mR) (Pc mR)):=by kernel_rfl
theorem Ox:RG mR=[18].toArray:=by kernel_rfl
def mSl(c:fh)(n:Int):List (Nat×Slot):=[sl 0 c.sv,sl 4 (.p 0 0),sl 8 (.s 1 1 0 2 2),sl 9 (.il .i64 2),sl 10 (.il .i64 n)]
def mHp(x y:Int):aY:=[(0,.lay [.v (.int .u32 x),.v (.int .u32 y)] 296),(1,.lay [.il .u8 4,.il .u8 5] 5)]
def mC0(c:fh)(n x y:Int)(m:Nat):Cut:=⟨Unit,λ_=>True,λ_=>⟨mSl c n,mHp x y,m,0,[],[]⟩,λ_=>0⟩
def Iy(c:fh)(o:Int):SV:=.f (.func 238) [] [.rp [c.sv] 0,.rp [.il .u8 o] 0]
def mCR(c:fh)(n o x y:Int)(q:Nat):Cut:=⟨Unit,λ_=>True,λ_=>⟨sl 5 (.p q 0)::sl 17 (Iy c o)::mSl c n,(q,.lay [.il .i64 n] 3)::mHp x y,q+1,0,[],[]⟩,λ_=>0⟩
def mRC(c:fh)(n:Int)(q:Nat)(L:Nat)(F:Nat->Int×Int):tP:=⟨Nat,λk=>k<=L,λk=>k,λk=>(q,.lay [.il .i64 n] 3)::mHp (F k).1 (F k).2,λ_=>q+1⟩
set_option maxRecDepth 100000 in
theorem LA(c:fh):ev (C:=cx) [] 31 0 XQ (cw XF) Xg TL ⟨bL 0 [c.sv],[],0,0,[],[]⟩ (λx st=>x=.normal∧(mC0 c 0 0 0 2).at_ 0 st λ_=>True):=by refine⟨rfl,(),[],[],trivial,trivial,?_⟩;repeat' (first|refine Ai ?_ ?_|intro _|exact rfl)
def wF(o:Int)(c:fh):Nat->Int:=λk=>(gq o c c.n).getD k 0
theorem Oa{o:Int}{c:fh}{k:Nat}(hk:k<(gq o c c.n).length):1<=wF o c k∧wF o c k<=31:=by
 have hm:wF o c k∈gq o c c.n:=by unfold wF;rw[List.getD_eq_getElem?_getD,UE hk];exact List.getElem_mem hk
 obtain⟨i,-,h2,h3⟩:=(u6 (f:=λi=>(c.e i).a) (g:=λi=>isW o (c.e i)) _).1 hm;unfold isW at h3;simp only[Uk,Uq] at h3;rw[h2];exact h3.2
set_option maxRecDepth 100000 in
theorem PR(c:fh)(x y:Int):ev (C:=cx) [] 31 0 XQ (cw XF) Xg (.seq (Ve mL) mC) ⟨mSl c 0,mHp x y,2,0,[],[]⟩ (λe st=>e=.normal∧(mC0 c 0 x y 2).at_ 0 st λ_=>True):=by refine⟨rfl,(),[],[],trivial,trivial,?_⟩;repeat' (first|refine Ai ?_ ?_|intro _|exact rfl)
set_option maxRecDepth 100000 in
theorem PO(c:fh)(x y:Int):ev (C:=cx) [] 31 0 XQ (cw XF) Xg (.seq (Ve mBB) (Ve m5)) ⟨mSl c 0,mHp x y,2,0,[],[]⟩ (λe st=>e=.normal∧(mCR c 0 4 x y 2).at_ 0 st λ_=>True):=by refine⟨rfl,(),[],[.freeze 3,.freeze 4],trivial,trivial,?_⟩;repeat' (first|refine Ai ?_ ?_|intro _|exact rfl)
set_option maxRecDepth 100000 in
theorem PM(c:fh)(M:Int)(k:Nat)(hk:k<(gq 4 c c.n).length):ev (C:=cx) [] 31 3 XQ (cw XF) Xg (Pd mR) ⟨iI 0 [18] [i64 (wF 4 c k)]++(sl 5 (.p 2 0)::sl 17 (Iy c 4)::mSl c 0),(mRC c 0 2 (gq 4 c c.n).length (λk=>(orM (wF 4 c) k,M))).H k,3,0,[],[]⟩ (λe Ze=>match e with
  | .normal=>ev (C:=cx) [] 31 3 XQ (cw XF) Xg (Pc mR) Ze (λe st3=>match e with
   | .normal=>(mRC c 0 2 (gq 4 c c.n).length (λk=>(orM (wF 4 c) k,M))).at_ 3 (k+1) st3
   | _=>False)
  | _=>False):=by
 have hw:=Oa hk;refine Ai (by omega:0<=wF 4 c k) ?_;refine⟨k+1,[],[],rfl,hk,?_⟩;repeat' (first|refine Ai ?_ ?_|intro _|exact rfl)
set_option maxRecDepth 100000 in
theorem PU(c:fh)(x y:Int):ev (C:=cx) [] 31 3 XQ (cw XF) Xg m8 ⟨sl 5 (.p 2 0)::sl 17 (Iy c 4)::mSl c 0,(2,.lay [.il .i64 0] 3)::mHp x y,3,0,[],[]⟩ (λe st=>e=.normal∧(mC0 c 1 x y 3).at_ 3 st λ_=>True):=by refine⟨rfl,(),[],[],trivial,trivial,?_⟩;repeat' (first|refine Ai ?_ ?_|intro _|exact rfl)
set_option maxRecDepth 100000 in
theorem PQ(c:fh)(x y:Int):ev (C:=cx) [] 31 3 XQ (cw XF) Xg (.seq (Ve mL) mC) ⟨mSl c 1,mHp x y,3,0,[],[]⟩ (λe st=>e=.normal∧(mC0 c 1 x y 3).at_ 3 st λ_=>True):=by refine⟨rfl,(),[],[],trivial,trivial,?_⟩;repeat' (first|refine Ai ?_ ?_|intro _|exact rfl)
set_option maxRecDepth 100000 in
theorem PN(c:fh)(x y:Int):ev (C:=cx) [] 31 3 XQ (cw XF) Xg (.seq (Ve mBB) (Ve m5)) ⟨mSl c 1,mHp x y,3,0,[],[]⟩ (λe st=>e=.normal∧(mCR c 1 5 x y 3).at_ 3 st λ_=>True):=by refine⟨rfl,(),[],[.freeze 4,.freeze 5],trivial,trivial,?_⟩;repeat' (first|refine Ai ?_ ?_|intro _|exact rfl)
set_option maxRecDepth 100000 in
theorem PL(c:fh)(M:Int)(k:Nat)(hk:k<(gq 5 c c.n).length):ev (C:=cx) [] 31 4 XQ (cw XF) Xg (Pd mR) ⟨iI 0 [18] [i64 (wF 5 c k)]++(sl 5 (.p 3 0)::sl 17 (Iy c 5)::mSl c 1),(mRC c 1 3 (gq 5 c c.n).length (λk=>(M,orM (wF 5 c) k))).H k,4,0,[],[]⟩ (λe Ze=>match e with
  | .normal=>ev (C:=cx) [] 31 4 XQ (cw XF) Xg (Pc mR) Ze (λe st3=>match e with
   | .normal=>(mRC c 1 3 (gq 5 c c.n).length (λk=>(M,orM (wF 5 c) k))).at_ 4 (k+1) st3
   | _=>False)
  | _=>False):=by
 have hw:=Oa hk;refine Ai (by omega:0<=wF 5 c k) ?_;refine⟨k+1,[],[],rfl,hk,?_⟩;repeat' (first|refine Ai ?_ ?_|intro _|exact rfl)
set_option maxRecDepth 100000 in
theorem PT(c:fh)(x y:Int):ev (C:=cx) [] 31 4 XQ (cw XF) Xg m8 ⟨sl 5 (.p 3 0)::sl 17 (Iy c 5)::mSl c 1,(3,.lay [.il .i64 1] 3)::mHp x y,4,0,[],[]⟩ (λe st=>e=.normal∧(mC0 c 2 x y 4).at_ 4 st λ_=>True):=by refine⟨rfl,(),[],[],trivial,trivial,?_⟩;repeat' (first|refine Ai ?_ ?_|intro _|exact rfl)
set_option maxRecDepth 100000 in
theorem Sl(c:fh)(x y:Int):ev (C:=cx) [] 31 4 XQ (cw XF) Xg mL ⟨mSl c 2,mHp x y,4,0,[],[]⟩ (λe st=>e=.exit 0∧(mC0 c 2 x y 4).at_ 4 st λ_=>True):=by refine⟨rfl,(),[],[],trivial,trivial,?_⟩;repeat' (first|refine Ai ?_ ?_|intro _|exact rfl)
set_option maxRecDepth 100000 in
theorem Sk(c:fh)(x y:Int):ev (C:=cx) [] 31 4 XQ (cw XF) Xg mT ⟨mSl c 2,mHp x y,4,0,[],[]⟩ (λe st=>e=.ret∧qC cx Tryz.f136.results.toList st λv=>ae (.tup [.v (.int .u32 x),.v (.int .u32 y)]) st.H v):=by refine⟨rfl,?_⟩;repeat' (first|refine Ai ?_ ?_|intro _|exact rfl)
end Go.Proofs.YtgigkennhdolpaaGreatDoor
