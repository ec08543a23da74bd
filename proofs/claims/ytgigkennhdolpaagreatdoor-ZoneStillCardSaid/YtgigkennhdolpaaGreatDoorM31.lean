/- Company, 66: iterators of any shape. -/
import Derived.Test.YtgigkennhdolpaaGreatDoorM30
import Derived.Test.YtgigkennhdolpaaGreatDoorM29
import Derived.Test.YtgigkennhdolpaaGreatDoorM19
namespace Go.Proofs.YtgigkennhdolpaaGreatDoor
open Go.Conc Go.RowKit
def eV:List (Nat×Slot)->Bool
 | []=>true
 | (_,s)::r=>match s.g,lu s.v with|[],true=>eV r|_,_=>false
theorem qu{t:Nat}{s:Slot} : ∀{l:List (Nat×Slot)},eV l=true->look l t=some s->lu s.v=true
 | [],_,h=>by cases h
 | (u,x)::r,hp,h=>by simp only[eV] at hp;split at hp;rename_i hv;by_cases e:u=t;subst e;rw[aj] at h;obtain rfl:=Oi h;exact hv;rw[ah _ _ e] at h;exact qu hp h;cases hp
structure PS {PP:Program} (C:Cx PP) (nt:Nat) (z:Nat->Nat->Value->Prop) (sl:List (Nat×Slot)) (a:Act) (W:World):Prop where
 grd:C.Xe W
 zok:∀b i c,z b i c->W.cell? ⟨b,i,none⟩=some c∧c.oneCell'=true
 sz:a.tmps.size=nt
 df:a.defers=[]
 cC:∀t s,look sl t=some s->s.g=[]->∃x,den (aB z) s.v x∧a.tmps[t]? = some x
def cov(sl:List (Nat×Slot))(st:St):Prop:=∃(σ:List (Nat×Nat)) (t:List Tr),G1 0 σ ⟨sl,[],0,0,[],[]⟩ (trs 0 t st)
section
variable {PP:Program}{C:Cx PP}{Γ:List (UW C)}{nt:Nat}{I:Yj}{inls:List Nat}{z:Nat->Nat->Value->Prop}{sl:List (Nat×Slot)}{a:Act}{W W':World}
theorem IS{z z':Nat->Nat->Value->Prop}(h:∀b i c,z b i c->z' b i c):(aB z).le (aB z'):=⟨λ_ _ h=>(by cases h),λ_ _ h=>(by cases h),λ_ _ _ h=>(by cases h),h⟩
theorem PS.rp{rg:Nat}(h:PS C nt z sl a W)(hrg:rgB rg sl=true):Rp C nt W (aB z).VK ⟨sl,[],0,rg,[],[]⟩ (aB z) a W:=
 ⟨⟨Mem.refl (gv h.grd h.zok).hb (λn b h=>by cases h) (λe l h=>by cases h) (λm i l h=>by cases h),(gv h.grd h.zok).blk,h.sz,h.df⟩,Bg hrg,h.cC⟩
theorem Dl:∀b,¬jq (aB z).VK b:=λb ho=>by
 rcases ho with ⟨n,ho|⟨e,l,o,h1,-⟩|⟨i,l,o,h1,-⟩⟩|ho
 cases ho;cases h1;cases h1;exact ho
theorem PS.of{st:St}{ρ:Names}(hr:Rp C nt W (aB z).VK st ρ a W')(hc:cov sl st)(hp:eV sl=true) :
  Gr W W'∧∃z':Nat->Nat->Value->Prop,(∀b i c,z' b i c->(z b i c∨W.heap.size<=b)∧W'.cell? ⟨b,i,none⟩=some c∧c.oneCell'=true)∧PS C nt z' sl a W':=by
 obtain⟨σ,t,hle⟩:=hc;obtain⟨Vx,Y3⟩:=vM (t:=t) (nm0:=0) (λn b h=>by cases h) (λe l h=>by cases h) (λm i l h=>by cases h) hr;have XK:=hle.rp (λn b h=>by cases h) (λe l h=>by cases h) (λm i l h=>by cases h) Y3;refine⟨hr.base.mem.keep.HH Dl,_,λb i c hz=>⟨?_,XK.base.mem.hb.zok b i c hz⟩,XK.base.mem.hb.grd,XK.base.mem.hb.zok,XK.base.sz,XK.base.df,λt s hs hg=>?_⟩;rcases XK.base.mem.zold b i c hz with h|h|h;exact .inl h;exact .inr h;exact Uw h (Dl b);obtain⟨x,h1,h2⟩:=XK.cC t s hs hg;exact⟨x,lP _ _ (qu hp hs) h1,h2⟩
theorem PS.tail{t:Nat}{s:Slot}(h:PS C nt z ((t,s)::sl) a W)(hn:look sl t=none):PS C nt z sl a W:=
 ⟨h.grd,h.zok,h.sz,h.df,λt' s' hs hg=>h.cC t' s' (by have:t≠t':=(by rintro rfl;rw[hn] at hs;cases hs);rw[ah _ _ this];exact hs) hg⟩
theorem PS.put{d:Nat}{v:Value}(h:PS C nt z sl a W)(hn:look sl d=none):PS C nt z sl (a.put (some d) v) W:=
 ⟨h.grd,h.zok,by show (a.tmps.setIfInBounds d v).size=nt;simp[h.sz],h.df,λt s hs hg=>by have e:d≠t:=(by rintro rfl;rw[hn] at hs;cases hs);obtain⟨x,h1,h2⟩:=h.cC t s hs hg;exact⟨x,h1,by show (a.tmps.setIfInBounds d v)[t]? = some x;rw[Uu e];exact h2⟩⟩
theorem nC{sl:List (Nat×Slot)} : ∀{ps:List Nat} {vs:List SV},dq vs=true->eV sl=true->eV (ig 0 ps vs++sl)=true
 | [],_,_,h=>h
 | _::_,[],_,h=>h
 | p::ps,v::vs,hv,h=>by
  have h1:lu v=true∧dq vs=true:=by
   unfold dq at hv;cases hp:lu v with
   | true=>rw[hp] at hv;exact⟨rfl,hv⟩
   | false=>rw[hp] at hv;cases hv
  show eV ((p,⟨0,0,[],v⟩)::(ig 0 ps vs++sl))=true;simp only[eV,h1.1];exact nC h1.2 h
theorem lU{sl:List (Nat×Slot)}{t:Nat} : ∀{ps:List Nat} {vs:List SV},t ∉ ps->look sl t=none->look (ig 0 ps vs++sl) t=none
 | [],_,_,h=>h
 | _::_,[],_,h=>h
 | p::ps,v::vs,hn,h=>by show look ((p,⟨0,0,[],v⟩)::(ig 0 ps vs++sl)) t=none;rw[ah _ _ λe=>hn (by rw[<-e];exact Ut ..)];exact lU (λhm=>hn (UE _ hm)) h
theorem PS.zip:∀{ps:List Nat} {vs:List SV},PS C nt z (ig 0 ps vs++sl) a W->ps.Nodup->ps.length=vs.length->(∀t∈ps,look sl t=none)->∃us,ao (aB z) vs us∧ps.map (λt=>a.eval (.tmp t))=us∧PS C nt z sl a W
 | [],[],h,_,_,_=>⟨[],rfl,rfl,h⟩
 | [],v::vs,_,_,hl,_=>by simp at hl
 | p::ps,[],_,_,hl,_=>by simp at hl
 | p::ps,v::vs,h,hn,hl,hs=>by obtain⟨hn1,hn2⟩:=List.nodup_cons.1 hn;have h:PS C nt z ((p,⟨0,0,[],v⟩)::(ig 0 ps vs++sl)) a W:=h;obtain⟨x,x1,x2⟩:=h.cC p _ (aj _ _ _) rfl;obtain⟨us,h1,h2,h3⟩:=PS.zip (h.tail (lU hn1 (hs p (Ut ..)))) hn2 (by simpa using hl) λt ht=>hs t (UE _ ht);exact⟨x::us,aL x1 h1,by rw[List.map_cons,h2,aW x2],h3⟩
theorem gS{a:Act}{t:Tmp}{x:Value}(h:a.tmps[t]? = some x):a.eval (.tmp t)=x:=aW h
end
theorem lE{P:Program}{co:Bool}{ops:Array Oper}{Q:Exit->Act->World->Prop}{r:List Oper} : ∀(l:List Oper) (a:Act) (w:World),cz P co ops (λ_ a w=>cz P co ops Q r a w) l a w->cz P co ops Q (l++r) a w
 | [],a,w,h=>h
 | o::l,a,w,h=>by have ih:=lE (P:=P) (co:=co) (ops:=ops) (Q:=Q) (r:=r) l;simp only[cz] at h;show cz P co ops Q (o::(l++r)) a w;simp only[cz];split;rename_i hw;rw[UD hw] at h;exact h.mono λa w h=>ih a w h;rename_i hw;rw[UC hw] at h;exact ih _ _ h
def hU{PP:Program}{C:Cx PP}(Γ:List (UW C))(nt:Nat)(I:Yj)(inls:List Nat)(sp:Bool)(ops:Array Oper)(draw:Bool)(n m:Nat):St->(St->Prop)->Prop
 | ⟨sl,H,nm,rg,_,_⟩,K=>match draw with
  | false=>match yT rg with|.mk rg'=>tl Γ nt I inls ops.toList sp 0 (lH m ops.toList) ⟨sl,H,nm,rg',[],[]⟩ K|.no=>False
  | true=>match yT rg with
   | .no=>False
   | .mk rg'=>zD (iA Γ nt true ops.toList (lH n ops.toList)) 0 (lH n ops.toList) ⟨sl,H,nm,rg',[],[]⟩
     λst=>tl Γ nt I inls ops.toList sp n (lH (m-n) (ops.toList.drop n)) st K
section
variable {PP:Program}{C:Cx PP}{Γ:List (UW C)}{nt:Nat}{w0:World}{UT ρ:Names}{a:Act}{W:World}{I:Yj}{inls:List Nat}
theorem oJ{ops:Array Oper}{n m:Nat}{sp draw:Bool}{id:Nat}{Q:Exit->Act->World->Prop}{st:St}{K:St->Prop}(hI:eP C I)(hm:C.P.follows .mixedOrders=true)(hB:draw=true->iI ops n=true)(XQ:n<=m)(hms:m<=ops.toList.length)(h:Rp C nt w0 UT st ρ a W)(he:hU Γ nt I inls sp ops draw n m st K)
  (hQ:∀st ρ a W,K st->Rp C nt w0 UT st ρ a W->cz C.P C.co ops Q (ops.toList.drop m) a W):wpR C.P C.co (.region id ops draw) Q a W:=by
 obtain⟨sl,H,nm,rg,rd,ws⟩:=st;have hi:=h.enter;have hQ':∀st ρ a W,K st->RI C nt w0 UT st ρ a W->cz C.P C.co ops Q (ops.toList.drop m) a W:=λst ρ a W hk hr=>hQ st ρ a W hk hr.leave;cases draw with
 | false=>
  simp only[hU,kT,n7] at he;refine lj ?_;have:=lE _ _ _ (l8 (Q:=λ_ a w=>cz C.P C.co ops Q (ops.toList.drop m) a w) hI hQ' _ _ _ _ _ _ hi he)
  rwa [List.take_append_drop] at this
 | true=>
  unfold hU at he;simp only[kT] at he;have hB:iI ops n=true:=hB rfl;simp only[n7] at he;have hle:n<=ops.toList.length:=Nat.le_trans XQ hms;have hlen:(ops.toList.take n).length=n:=(by rw[List.length_take];omega);obtain⟨U6,hK⟩:=tn _ (l:=ops.toList.take n) (st0:=⟨sl,H,nm,rg+1,[],[]⟩) (ops.toList.take n) 0 (λj=>by simp) (by simp) he;have F:cJ Γ nt ops.toList (ops.toList.take n) ⟨sl,H,nm,rg+1,[],[]⟩ (pg (iA Γ nt true ops.toList (ops.toList.take n)) (ops.toList.take n) ⟨sl,H,nm,rg+1,[],[]⟩):=
   ⟨rfl,λi o ho=>U6 i o (Up _) ho,λt s hs=>by
    have:s.rg<=rg:=h.rgs t s hs;show s.rg≠rg+1;omega,λi o ho=>by
    have hl:i<n:=by have:=(J'.1 ho).1;omega
    rwa [UF hl] at ho⟩
  refine lC hm λW1 r1=>?_;have hid:=hi.later r1;refine nA (n:=n) hB (λlisted a' W'=>∃US,HI C nt w0 UT (ops.toList.take n) ⟨sl,H,nm,rg+1,[],[]⟩ (pg (iA Γ nt true ops.toList (ops.toList.take n)) (ops.toList.take n) ⟨sl,H,nm,rg+1,[],[]⟩) ρ a listed US a' W')
   ⟨ρ,sT F hid (λi=>getD_replicate_false _ i)⟩ ?_ ?_
  intro listed a' W' i o inv hI' Xm ho hu Va K' Z1;have Zr:(ops.toList.take n)[i]? = some o:=(by rw[UF Xm];simpa using ho);exact DM F hlen hid listed a' W' i o inv hI' Xm ho Zr hu Va K' Z1;intro listed a' W' ⟨US,hI'⟩ Vb;have:=lE _ _ _ (l8 (Q:=λ_ a w=>cz C.P C.co ops Q (ops.toList.drop m) a w) hI hQ' _ _ _ US a' W' (va F hid hI' (by rw[hlen];exact Vb)) hK);have e:(ops.toList.drop n).take (m-n)++ops.toList.drop m=ops.toList.drop n:=by have h1:=List.take_append_drop (m-n) (ops.toList.drop n);rw[List.drop_drop,show n+(m-n)=m by omega] at h1;exact h1
  rwa [e] at this
end
structure qg {PP:Program} (C:Cx PP) (l n:Nat) (f:Nat->List SV) (J:(Nat->Nat->Value->Prop)->Nat->World->Prop):Prop where
 facts:∀z k W,J z k W->C.Xe W∧∀b i c,z b i c->W.cell? ⟨b,i,none⟩=some c∧c.oneCell'=true
 grow:∀(z z':Nat->Nat->Value->Prop) k W W',J z k W->Gr W W'->(∀b i c,z' b i c->(z b i c∨W.heap.size<=b)∧W'.cell? ⟨b,i,none⟩=some c∧c.oneCell'=true)->J (λb i c=>z b i c∨z' b i c) k W'
 round:∀z k W us,J z k W->k<n->ao (aB z) (f k) us->La C.P C.co l us.toArray W λv W'=>v=.bool true∧J z (k+1) W'
section
variable {PP:Program}{C:Cx PP}{Γ:List (UW C)}{nt:Nat}{I:Yj}{inls:List Nat}{z:Nat->Nat->Value->Prop}{sl:List (Nat×Slot)}{a:Act}{W W':World}{l n k:Nat}{f:Nat->List SV}{J:(Nat->Nat->Value->Prop)->Nat->World->Prop}
theorem qg.adv(Y:qg C l n f J){st:St}{ρ:Names}(hj:J z k W)(hr:Rp C nt W (aB z).VK st ρ a W')(hc:cov sl st)(hp:eV sl=true):∃z',J z' k W'∧PS C nt z' sl a W':=by obtain⟨g,z',h1,h2⟩:=PS.of hr hc hp;have XR:=Y.grow z z' k W W' hj g h1;obtain⟨f1,f2⟩:=Y.facts _ _ _ XR;exact⟨_,XR,f1,f2,h2.sz,h2.df,λt s hs hg=>let ⟨x,q1,q2⟩:=h2.cC t s hs hg;⟨x,bM (IS λ_ _ _ h=>.inr h) _ _ q1,q2⟩⟩
theorem qg.later(Y:qg C l n f J)(hj:J z k W)(r:Rv W W'):J z k W':=by
 obtain⟨g1,g2⟩:=Y.facts _ _ _ hj;have h:=Y.grow z z k W W' hj (cZ r) (λb i c hz=>⟨.inl hz,(by have Vs:=(g2 b i c hz).1;have hlt8:b<W.heap.size:=(by rcases Nat.lt_or_ge b W.heap.size with h|h;exact h;have hn:W.heap[b]? = none:=Array.getElem?_eq_none h;unfold World.cell? at Vs;simp[hn] at Vs);exact⟨(cell_of_heap (r.same hlt8)).trans Vs,(g2 b i c hz).2⟩)⟩);have e7:(λb i c=>z b i c∨z b i c)=z:=by funext b i c;simp
 rwa [e7] at h
theorem xB(Y:qg C l n f J)(hj:J z k W)(hk:k<n){us:List Value}(hd:ao (aB z) (f k) us){tf:Tmp}{dy:Option Tmp}{ays:Array Operand}{ats:Array TypeId}{ty:TypeId}{pos:String}{after:Array Edge}{g:Option (Nat×Bool)}(hf:a.eval (.tmp tf)=.func (.yield l) #[] #[])(ha:ays.map a.eval=us.toArray) :
  OpJ C.P C.co ⟨dy,.call ⟨.value (.tmp tf),ays,ats⟩,ty,pos,after,g⟩ a W (λa' W'=>a'=a.put dy (.bool true)∧J z (k+1) W'):=by
 have hx:execOp a.eval ⟨dy,.call ⟨.value (.tmp tf),ays,ats⟩,ty,pos,after,g⟩=Instr.yield l us.toArray:=by simp only[execOp,resolve,hf,ha,Deferred.ofValue];simp[invoke]
 refine⟨by rw[hx];exact IY _ _,λW1 r1=>?_⟩;obtain⟨fn,tmps,VM,body,hy,hr⟩:=Y.round z k W us hj hk hd W1 r1;unfold dB;rw[hx,hy];exact jP.mono hr λv w ⟨e,h⟩=>⟨by rw[e],h⟩
theorem vJ{P:Program}{co:Bool}{o:Oper}{v:Value}{K:Act->World->Prop}(hns:NS P (execOp a.eval o))(e:∀W1,(execOp a.eval o).run P W1=.ok (.value v) W1)(h:∀W1,Rv W W1->K (a.put o.dst v) W1):OpJ P co o a W K:=
 ⟨hns,λW1 r1=>bF (e W1) (h W1 r1)⟩
theorem PS.later(Y:qg C l n f J)(hj:J z k W)(hp:PS C nt z sl a W'):PS C nt z sl a W:=⟨(Y.facts _ _ _ hj).1,(Y.facts _ _ _ hj).2,hp.sz,hp.df,hp.cC⟩
theorem mw{d:Tmp}{v:Value}(h:d<a.tmps.size):(a.put (some d) v).eval (.tmp d)=v:=gS (by show (a.tmps.setIfInBounds d v)[d]? = _;simp[h])
theorem Hr(Y:qg C l n f J)(hI:eP C I)(hm:C.P.follows .mixedOrders=true){tf dy dn:Tmp}{WW:List Nat}{ops:Array Oper}{ats:Array TypeId}{tyY tyN tN:TypeId}{posY YA:String}{Wu Wv:Array Edge}{id nh m:Nat}{sp draw:Bool}{st:St}{ρ:Names}
  (hd:ops.toList.drop m=[⟨some dy,.call ⟨.value (.tmp tf),(WW.map Operand.tmp).toArray,ats⟩,tyY,posY,Wu,none⟩,⟨some dn,.unOp .not tN (.tmp dy),tyN,YA,Wv,none⟩])
  (hB:draw=true->iI ops nh=true) (XQ:nh<=m) (hms:m<=ops.toList.length) (hdy:dy<nt) (hdn:dn<nt)
  (Xs:look sl dy=none∧look sl dn=none∧(∀t∈WW,look sl t=none)∧look sl tf=none) (hfa:(tf::WW).Nodup) (XW:WW.length=(f k).length) (hfp:dq (f k)=true) (hsp:eV sl=true) (hk:k<n)
  (hj:J z k W) (hR:Rp C nt W (aB z).VK st ρ a W') (he:hU Γ nt I inls sp ops draw nh m st (cov ((tf,⟨0,0,[],.v (.func (.yield l) #[] #[])⟩)::(ig 0 WW (f k)++sl)))) :
  wpR C.P C.co (.region id ops draw) (λe a' W'=>e=.normal∧a'.eval (.tmp dn)=.bool false∧∃z',J z' (k+1) W'∧PS C nt z' sl a' W') a W':=by
 refine oJ hI hm hB XQ hms hR he λst7 ρ7 a7 W7 hk7 hr7=>?_;obtain⟨z7,hj7,Y7⟩:=Y.adv hj hr7 hk7 (by simp only[eV,lu];exact nC hfp hsp);obtain⟨xf,f1,f2⟩:=Y7.cC tf _ (aj _ _ _) rfl;obtain rfl:xf=.func (.yield l) #[] #[]:=f1;obtain⟨hfa1,hfa2⟩:=List.nodup_cons.1 hfa;obtain⟨us,u1,u2,Y6⟩:=PS.zip (Y7.tail (lU hfa1 Xs.2.2.2)) hfa2 XW Xs.2.2.1;rw[hd];simp only[cz];rw[UD (dc rfl)];refine(xB Y hj7 hk u1 (gS f2) (by simp[<-u2,Function.comp_def])).mono ?_;rintro a8 W8 ⟨rfl,hj8⟩;rw[UD (dc rfl)];have Y8:=(Y6.later Y hj8).put (v:=.bool true) Xs.1;have hev1:(a7.put (some dy) (.bool true)).eval (.tmp dy)=.bool true:=mw (by rw[Y6.sz];exact hdy);refine vJ (v:=.bool false) (by simp only[execOp,hev1];exact trivial) (λW1=>zn (by rw[hev1];rfl)) λW9 r9=>?_;have hj9:=Y.later hj8 r9;exact⟨trivial,mw (by rw[Y8.sz];exact hdn),z7,hj9,((Y8.later Y hj9).put Xs.2.1)⟩
theorem uC(Y:qg C l n f J)(hI:eP C I)(hm:C.P.follows .mixedOrders=true){tf dy dn dp dg:Tmp}{WW:List Nat}{ops:Array Oper}{ats:Array TypeId}{tyY tyN tN tyP:TypeId}{posY YA posP:String}{Wu Wv YK:Array Edge}{id nh m j:Nat}{sp draw c:Bool}{st:St}{ρ:Names}
  (hd:ops.toList.drop m=[⟨some dy,.call ⟨.value (.tmp tf),(WW.map Operand.tmp).toArray,ats⟩,tyY,posY,Wu,some (j,true)⟩,⟨some dn,.unOp .not tN (.tmp dy),tyN,YA,Wv,some (j,true)⟩,⟨some dp,.pick (.tmp dg) (.tmp dn) (.const (.bool false)),tyP,posP,YK,none⟩])
  (hg:(ops[j]?).bind (·.dst)=some dg) (hgd:dg≠dy∧dg≠dn) (hgt:dg≠tf∧dg ∉ WW)
  (hB:draw=true->iI ops nh=true) (XQ:nh<=m) (hms:m<=ops.toList.length) (hdy:dy<nt) (hdn:dn<nt) (hdp:dp<nt)
  (Xs:look sl dy=none∧look sl dn=none∧(∀t∈WW,look sl t=none)∧look sl tf=none∧look sl dp=none∧look sl dg=none) (hfa:(tf::WW).Nodup) (XW:WW.length=(f k).length) (hfp:dq (f k)=true) (hsp:eV sl=true) (hk:c=true->k<n)
  (hj:J z k W) (hR:Rp C nt W (aB z).VK st ρ a W') (he:hU Γ nt I inls sp ops draw nh m st (λst=>match c with
   | true=>cov ((dg,⟨0,0,[],.v (.bool true)⟩)::(tf,⟨0,0,[],.v (.func (.yield l) #[] #[])⟩)::(ig 0 WW (f k)++sl)) st
   | false=>cov ((dg,⟨0,0,[],.v (.bool false)⟩)::sl) st)) :
  wpR C.P C.co (.region id ops draw) (λe a' W'=>e=.normal∧a'.eval (.tmp dp)=.bool false∧∃z',J z' (match c with|true=>k+1|false=>k) W'∧PS C nt z' sl a' W') a W':=by
 have hyl:∀(a:Act) (x:Bool),a.tmps[dg]? = some (.bool x)->yielded ops a.tmps j=some x:=λa x h=>by unfold yielded;rw[hg];show (match a.tmps[dg]? with|some (.bool b)=>some b|_=>none)=_;rw[h]
 refine oJ hI hm hB XQ hms hR he λst7 ρ7 a7 W7 hk7 hr7=>?_;rw[hd];simp only[cz];cases c with
 | false=>
  obtain⟨z7,hj7,Y7⟩:=Y.adv hj hr7 hk7 (by simp only[eV,lu];exact hsp);obtain⟨xg,g1,g2⟩:=Y7.cC dg _ (aj _ _ _) rfl;obtain rfl:xg=.bool false:=g1;have Y6:=Y7.tail Xs.2.2.2.2.2;have hw:∀(a:Act) (o:Oper),o.guard=some (j,true)->a.tmps[dg]? = some (.bool false)->¬Region.wanted o (yielded ops a.tmps)=true:=λa o ho h e=>(by unfold Region.wanted at e;rw[ho] at e;simp[hyl a false h] at e);have Y5:∀(a:Act) (d:Tmp) (v:Value),dg≠d->a.tmps[dg]? = some (.bool false)->(a.put (some d) v).tmps[dg]? = some (.bool false):=λa d v U2 h=>(by show (a.tmps.setIfInBounds d v)[dg]? = _;rw[Uu (Ne.symm U2)];exact h);rw[UC (hw _ _ rfl g2)];have g3:=Y5 a7 dy undef hgd.1 g2;rw[UC (hw _ _ rfl g3)];have g4:=Y5 _ dn undef hgd.2 g3;rw[UD (dc rfl)];refine vJ (v:=.bool false) ?_ (λW1=>oH (b:=false) (gS g4)) λW9 r9=>?_;have XL:=gS g4;simp only[execOp];exact aa (by rw[XL];trivial) λb=>trivial;have hj9:=Y.later hj7 r9;have q1:=(((Y6.put (v:=undef) Xs.1).put (v:=undef) Xs.2.1).later Y hj9).put (v:=.bool false) Xs.2.2.2.2.1;exact⟨trivial,mw (by have:=Y6.sz;simp[Act.put,this];exact hdp),z7,hj9,q1⟩
 | true=>
  obtain⟨z7,hj7,Y7⟩:=Y.adv hj hr7 hk7 (by simp only[eV,lu];exact nC hfp hsp);obtain⟨xg,g1,g2⟩:=Y7.cC dg _ (aj _ _ _) rfl;obtain rfl:xg=.bool true:=g1;obtain⟨hfa1,hfa2⟩:=List.nodup_cons.1 hfa;have hps7':=Y7.tail (by rw[ah _ _ (Ne.symm hgt.1)];exact lU hgt.2 Xs.2.2.2.2.2);obtain⟨xf,f1,f2⟩:=hps7'.cC tf _ (aj _ _ _) rfl;obtain rfl:xf=.func (.yield l) #[] #[]:=f1;obtain⟨us,u1,u2,Y6⟩:=PS.zip (hps7'.tail (lU hfa1 Xs.2.2.2.1)) hfa2 XW Xs.2.2.1;have hw:∀(a:Act) (o:Oper),o.guard=some (j,true)->a.tmps[dg]? = some (.bool true)->Region.wanted o (yielded ops a.tmps)=true:=λa o ho h=>(by unfold Region.wanted;rw[ho];simp[hyl a true h]);have Y5:∀(a:Act) (d:Tmp) (v:Value),dg≠d->a.tmps[dg]? = some (.bool true)->(a.put (some d) v).tmps[dg]? = some (.bool true):=λa d v U2 h=>(by show (a.tmps.setIfInBounds d v)[dg]? = _;rw[Uu (Ne.symm U2)];exact h);rw[UD (hw _ _ rfl g2)];refine(xB Y hj7 (hk rfl) u1 (gS f2) (by simp[<-u2,Function.comp_def])).mono ?_;rintro a8 W8 ⟨rfl,hj8⟩;have g3:=Y5 a7 dy (.bool true) hgd.1 g2;rw[UD (hw _ _ rfl g3)];have Y8:=(Y6.later Y hj8).put (v:=.bool true) Xs.1;have hev1:(a7.put (some dy) (.bool true)).eval (.tmp dy)=.bool true:=mw (by rw[Y6.sz];exact hdy);refine vJ (v:=.bool false) (by simp only[execOp,hev1];exact trivial) (λW1=>zn (by rw[hev1];rfl)) λW9 r9=>?_;have hj9:=Y.later hj8 r9;have g4:=Y5 _ dn (.bool false) hgd.2 g3;have hps11:=((Y8.later Y hj9).put (v:=.bool false) Xs.2.1)
  rw[UD (dc rfl)];have hev2:((a7.put (some dy) (.bool true)).put (some dn) (.bool false)).eval (.tmp dn)=.bool false:=mw (by rw[Y8.sz];exact hdn);refine vJ (v:=.bool false) ?_ (λW1=>by rw[oH (b:=true) (gS g4),UD rfl,hev2]) λW10 r10=>?_;have XL:=gS g4;simp only[execOp];exact aa (by rw[XL];trivial) λb=>trivial;have hj10:=Y.later hj9 r10;exact⟨trivial,mw (by rw[hps11.sz];exact hdp),z7,hj10,((hps11.later Y hj10).put Xs.2.2.2.2.1)⟩
theorem DF{gf:FuncId}{fn:Func}{A T B S:Code}{cT:Tmp}{b0 b1:Nat}{cap:List SV}{h:X1}
  (hI:eP C I) (hm:C.P.follows .mixedOrders=true) (hf:C.P.funcs[gf]? = some fn)
  (hb:fn.body=some (.seq A (.block b0 (.loop (.seq T (.seq (.cond (.tmp cT) .skip (.exit b0)) (.seq (.block b1 B) S)))))))
  (Y2:fn.results=#[]) (hlen:Nat.ble (cap.length+1) fn.ntmps=true)
  (hBA:eB h.fl A=true) (hBT:eB h.fl T=true) (hBS:eB h.fl S=true)
  (N:Nat) (cnt:Nat->Nat) (f:Nat->List SV) (SL:Nat->Nat->List (Nat×Slot)) (hcp:dq cap=true)
  (hSp:∀l i,eV (SL l i)=true) (hSr:∀l i,rgB 0 (SL l i)=true) (hSd:∀l i,look (SL l i) cT=none)
  (h0:cnt 0=0)
  (hA:∀l,ev Γ fn.ntmps 0 I inls h A ⟨bB 0 (.v (.func (.yield l) #[] #[])::cap),[],0,0,[],[]⟩ λe st=>match e with|.normal=>cov (SL l 0) st|_=>False)
  (hT:∀l i,i<=N->ev Γ fn.ntmps 0 I inls h T ⟨SL l i,[],0,0,[],[]⟩ λe st=>match e with|.normal=>cov ((cT,⟨0,0,[],.v (.bool (decide (i<N)))⟩)::SL l i) st|_=>False)
  (hB:∀l J,qg C l (cnt N) f J->∀i z a W,i<N->J z (cnt i) W->PS C fn.ntmps z (SL l i) a W->wpR C.P C.co B (λe a' W'=>(e=.normal∨e=.exit b1)∧∃z',J z' (cnt (i+1)) W'∧PS C fn.ntmps z' (SL l i) a' W') a W)
  (hS:∀l i,i<N->ev Γ fn.ntmps 0 I inls h S ⟨SL l i,[],0,0,[],[]⟩ λe st=>match e with|.normal=>cov (SL l (i+1)) st|_=>False) :
  OK C gf cap (cnt N) f:=by
 intro l J z W vs VR hJ hfacts hgrow X6;have Y:qg C l (cnt N) f J:=⟨hfacts,hgrow,X6⟩
 have hlen:=L' hlen;have hvl:=aF VR;have XM:∀{z:Nat->Nat->Value->Prop},∀n b,(aB z).VK.n n=some b->n<0:=λn b h=>by cases h
 have Ws:∀{z:Nat->Nat->Value->Prop},∀e l,(aB z).VK.v e=some l->e<0∧l.o<0:=λn b h=>by cases h
 have WS:∀{z:Nat->Nat->Value->Prop},∀m i l,(aB z).VK.k m i=some l->m<0:=λn b m h=>by cases h
 refine oP hf hb (wpR.toJ ?_)
 -- ahead of Ye loop
 obtain⟨a0,ha0⟩:∃a0:Act,a0 = {tmps:=((#[.func (.yield l) #[] #[]]:Array Value)++vs.toArray)++Array.replicate (fn.ntmps-((#[.func (.yield l) #[] #[]]:Array Value)++vs.toArray).size) undef,defers:=[]}:=⟨_,rfl⟩
 rw[<-ha0];have hps0:PS C fn.ntmps z (bB 0 (.v (.func (.yield l) #[] #[])::cap)) a0 W:=by obtain⟨f1,f2⟩:=hfacts _ _ _ hJ;refine⟨f1,f2,by rw[ha0];simp;omega,by rw[ha0],λt s hs hg=>?_⟩;obtain⟨i,v,rfl,hv,rfl⟩:=eS hs;obtain⟨u,h1,h2⟩:=fw (aL (x:=.v (.func (.yield l) #[] #[])) (a:=.func (.yield l) #[] #[]) rfl VR) hv;refine⟨u,h2,?_⟩;have hl:i<vs.length+1:=(by have:=(J'.1 h1).1;simpa using this);rw[ha0,B'];show (((#[.func (.yield l) #[] #[]]:Array Value)++vs.toArray)++Array.replicate _ undef)[i]? = some u;rw[Array.getElem?_append_left (by simp;omega)];rw[<-h1];simp[<-Array.getElem?_toList]
 have hrg0:rgB 0 (bB 0 (.v (.func (.yield l) #[] #[])::cap))=true:=by
  have:∀(l:List SV) (k:Nat),rgB 0 (bB k l)=true:=by
   intro l
   induction l with
   | nil=>intro k;rfl
   | cons x r ih=>intro k;simp only[bB,rgB];exact ih (k+1)
  exact this _ _
 refine fH (cR (cX hI hm XM Ws WS A _ _ hBA (hA l) _ a0 W (hps0.rp hrg0)) ?_);rintro e a1 W1 ⟨x,st,ρ,rfl,hk,hr⟩;cases x with
 | exit i=>exact hk.elim
 | ret=>exact hk.elim
 | normal=>
 obtain⟨z1,hj1,hps1⟩:=Y.adv hJ hr hk (hSp l 0);refine o4 (rL (λm a W=>∃i z,N-i=m∧i<=N∧J z (cnt i) W∧PS C fn.ntmps z (SL l i) a W) N ⟨0,z1,rfl,Up _,by rw[h0];exact hj1,hps1⟩ ?_);rintro m a W ⟨i,z,hm',hi,hj,Yu⟩;refine fH (cR (cX hI hm XM Ws WS T _ _ hBT (hT l i hi) _ a W (Yu.rp (hSr l i))) ?_);rintro e a2 W2 ⟨x,st,ρ,rfl,hk,hr⟩;cases x with
 | exit i=>exact hk.elim
 | ret=>exact hk.elim
 | normal=>
 obtain⟨z2,hj2,hps2⟩:=Y.adv hj hr hk (by simp only[eV,lu];exact hSp l i);obtain⟨xb,VN,Vz⟩:=hps2.cC cT _ (aj _ _ _) rfl;obtain rfl:xb=.bool (decide (i<N)):=VN;have hps3:=hps2.tail (hSd l i);by_cases hiN:i<N
 rotate_left
 ·-- Ye end
  obtain rfl:i=N:=(by omega);refine fH (gJ (by rw[gS Vz];simp) (xE ?_));show (if b0=b0 then _ else _);rw[UD rfl];exact⟨hps2.df,_,results_none Y2 _ _ _,⟨_,rfl⟩,z2,hj2⟩
 refine fH (jL (by rw[gS Vz];simp[hiN]) (nU ?_));show wpR _ _ _ _ _ _;refine fH (o4 (cR (hB l J Y i z2 a2 W2 hiN hj2 hps3) ?_));rintro e a3 W3 ⟨he,z3,hj3,hp3⟩;have hrest:wpR C.P C.co S (Exit.then (λa' W'=>∃m',m'<m∧∃i z,N-i=m'∧i<=N∧J z (cnt i) W'∧PS C fn.ntmps z (SL l i) a' W') (Exit.inBlock b0 (qc C.P C.co fn λe W'=>(∃v,e=.returned v)∧∃z,J z (cnt N) W'))) a3 W3:=by
  refine cR (cX hI hm XM Ws WS S _ _ hBS (hS l i hiN) _ a3 W3 (hp3.rp (hSr l i))) ?_;rintro e a4 W4 ⟨x,st,ρ,rfl,hk,hr⟩;cases x with
  | exit i=>exact hk.elim
  | ret=>exact hk.elim
  | normal=>
  obtain⟨z4,hj4,hps4⟩:=Y.adv hj3 hr hk (hSp l (i+1));exact⟨N-(i+1),by omega,i+1,z4,rfl,by omega,hj4,hps4⟩
 rcases he with rfl|rfl;exact hrest;show (if b1=b1 then _ else _);rw[UD rfl];exact hrest
end
structure YG {PP:Program} {C:Cx PP} (Γ:List (UW C)) (nt:Nat) (I:Yj) (inls:List Nat) (sp:Bool) (ops:Array Oper) (draw:Bool) (nh m:Nat) (c:Bool) (dg tf:Tmp) (l:Nat) (WW:List Nat) (args:List SV) (sl:List (Nat×Slot)) (st:St):Prop where
 h:hU Γ nt I inls sp ops draw nh m st (λst=>match c with
   | true=>cov ((dg,⟨0,0,[],.v (.bool true)⟩)::(tf,⟨0,0,[],.v (.func (.yield l) #[] #[])⟩)::(ig 0 WW args++sl)) st
   | false=>cov ((dg,⟨0,0,[],.v (.bool false)⟩)::sl) st)
structure YR {PP:Program} {C:Cx PP} (Γ:List (UW C)) (nt:Nat) (I:Yj) (inls:List Nat) (sp:Bool) (ops:Array Oper) (draw:Bool) (nh m:Nat) (tf:Tmp) (l:Nat) (WW:List Nat) (args:List SV) (sl:List (Nat×Slot)) (st:St):Prop where
 h:hU Γ nt I inls sp ops draw nh m st (cov ((tf,⟨0,0,[],.v (.func (.yield l) #[] #[])⟩)::(ig 0 WW args++sl)))
def To(ops:Array Oper)(m j:Nat)(dy dn dp dg tf:Tmp)(WW:List Nat):Prop:=∃(ats:Array TypeId) (tyY tyN tN tyP:TypeId) (posY YA posP:String) (Wu Wv YK:Array Edge),ops.toList.drop m=[⟨some dy,.call ⟨.value (.tmp tf),(WW.map Operand.tmp).toArray,ats⟩,tyY,posY,Wu,some (j,true)⟩,⟨some dn,.unOp .not tN (.tmp dy),tyN,YA,Wv,some (j,true)⟩,⟨some dp,.pick (.tmp dg) (.tmp dn) (.const (.bool false)),tyP,posP,YK,none⟩]
def Tn(ops:Array Oper)(m:Nat)(dy dn tf:Tmp)(WW:List Nat):Prop:=∃(ats:Array TypeId) (tyY tyN tN:TypeId) (posY YA:String) (Wu Wv:Array Edge),ops.toList.drop m=[⟨some dy,.call ⟨.value (.tmp tf),(WW.map Operand.tmp).toArray,ats⟩,tyY,posY,Wu,none⟩,⟨some dn,.unOp .not tN (.tmp dy),tyN,YA,Wv,none⟩]
section
variable {PP:Program}{C:Cx PP}{Γ:List (UW C)}{nt:Nat}{I:Yj}{inls:List Nat}{z:Nat->Nat->Value->Prop}{sl:List (Nat×Slot)}{a:Act}{W W':World}{l n k:Nat}{f:Nat->List SV}{J:(Nat->Nat->Value->Prop)->Nat->World->Prop}
theorem AI(Y:qg C l n f J)(hI:eP C I)(hm:C.P.follows .mixedOrders=true){tf dy dn dp dg:Tmp}{WW:List Nat}{ops:Array Oper}{args:List SV}{id nh m j:Nat}{sp draw c:Bool}{st:St}{ρ:Names}
  (hd:To ops m j dy dn dp dg tf WW) (hg:(ops[j]?).bind (·.dst)=some dg) (hgd:dg≠dy∧dg≠dn) (hgt:dg≠tf∧dg ∉ WW)
  (hB:draw=true->iI ops nh=true) (XQ:nh<=m) (hms:ops.toList.length=m+3) (hdy:Nat.ble (dy+1) nt=true) (hdn:Nat.ble (dn+1) nt=true) (hdp:Nat.ble (dp+1) nt=true)
  (Xs:look sl dy=none∧look sl dn=none∧(∀t∈WW,look sl t=none)∧look sl tf=none∧look sl dp=none∧look sl dg=none) (hfa:(tf::WW).Nodup) (XW:WW.length=args.length) (hfp:dq args=true) (hsp:eV sl=true) (hk:c=true->k<n∧f k=args)
  (hj:J z k W) (hR:Rp C nt W (aB z).VK st ρ a W') (he:YG Γ nt I inls sp ops draw nh m c dg tf l WW args sl st) :
  wpR C.P C.co (.region id ops draw) (λe a' W'=>e=.normal∧a'.eval (.tmp dp)=.bool false∧∃z',J z' (bif c then k+1 else k) W'∧PS C nt z' sl a' W') a W':=by
 obtain⟨ats,tyY,tyN,tN,tyP,posY,YA,posP,Wu,Wv,YK,hd⟩:=hd;have hms':m<=ops.toList.length:=by omega
 have h1:dy<nt:=L' hdy;have h2:dn<nt:=L' hdn;have h3:dp<nt:=L' hdp;have he:=he.h;cases c with
 | true=>
  obtain⟨Xy,XE⟩:=hk rfl;subst XE;exact uC (c:=true) Y hI hm hd hg hgd hgt hB XQ hms' h1 h2 h3 Xs hfa XW hfp hsp (λ_=>Xy) hj hR he
 | false=>
  obtain⟨f',rfl⟩:∃f':Nat->List SV,args=f' k:=⟨λ_=>args,rfl⟩
  have Y':qg C l 0 f' J:=⟨Y.facts,Y.grow,λz k W us _ hk=>Uw hk (F' _)⟩
  exact uC (c:=false) Y' hI hm hd hg hgd hgt hB XQ hms' h1 h2 h3 Xs hfa XW hfp hsp (λh=>(by cases h)) hj hR he
theorem EI(Y:qg C l n f J)(hI:eP C I)(hm:C.P.follows .mixedOrders=true){tf dy dn:Tmp}{WW:List Nat}{ops:Array Oper}{args:List SV}{id nh m:Nat}{sp draw:Bool}{st:St}{ρ:Names}
  (hd:Tn ops m dy dn tf WW) (hB:draw=true->iI ops nh=true) (XQ:nh<=m) (hms:ops.toList.length=m+2) (hdy:Nat.ble (dy+1) nt=true) (hdn:Nat.ble (dn+1) nt=true)
  (Xs:look sl dy=none∧look sl dn=none∧(∀t∈WW,look sl t=none)∧look sl tf=none) (hfa:(tf::WW).Nodup) (XW:WW.length=args.length) (hfp:dq args=true) (hsp:eV sl=true) (hk:k<n) (hf:f k=args)
  (hj:J z k W) (hR:Rp C nt W (aB z).VK st ρ a W') (he:YR Γ nt I inls sp ops draw nh m tf l WW args sl st) :
  wpR C.P C.co (.region id ops draw) (λe a' W'=>e=.normal∧a'.eval (.tmp dn)=.bool false∧∃z',J z' (k+1) W'∧PS C nt z' sl a' W') a W':=by
 obtain⟨ats,tyY,tyN,tN,posY,YA,Wu,Wv,hd⟩:=hd;subst hf;exact Hr Y hI hm hd hB XQ (by omega) (L' hdy) (L' hdn) Xs hfa XW hfp hsp hk hj hR he.h
end
set_option maxRecDepth 8000
theorem oE{α:Type}{f:Nat->α}{g:Nat->Bool}{d:α}{i:Nat}(hg:g i=true):∀n,i<n->(cW f g n).getD (cW f g i).length d=f i∧(cW f g i).length<(cW f g n).length
 | 0,h=>Uw h (F' i)
 | n+1,h=>by
  rcases UK (Nat.le_of_lt_succ h) with rfl|h1;rw[fJ hg];simp;obtain⟨k1,k2⟩:=oE (f:=f) (d:=d) hg n h1;cases hn:g n with
  | true=>
   rw[fJ hn];refine⟨?_,by simp;omega⟩;rw[<-k1];simp[List.getD_eq_getElem?_getD,M' k2]
  | false=>rw[iq hn];exact⟨k1,k2⟩
def UY.b(m:UY):Body:=⟨m.bID,m.bPosX,m.bPosY,m.bVelX,m.bVelY,m.bW,m.bH,m.bRound,m.bFixed⟩
def UY.ZO(m:UY)(i:Nat):Bool:=match decide (¬(m.sBodies.e i).iD=m.bID) with
 | true=>!(m.sBodies.e i).jY m.b
 | false=>false
def ca(m:UY)(k:Nat):List Body:=cW m.sBodies.e m.ZO k
def Xk:Body:=⟨0,0,0,0,0,0,0,false,false⟩
def SA:Code->Code|.block _ (.loop c)=>c|_=>.skip
def Th:Code->Code|.block _ c=>c|_=>.skip
def rgO:Code->Array Oper|.region _ o _=>o|_=>#[]
noncomputable def bsL:Code:=SA (Ve ibB)
noncomputable def bsB:Code:=Th (Vo (Ve (Ve bsL)))
noncomputable def bs3:Array Oper:=rgO (Vo (Ve bsB))
def KU(m:UY)(l i:Nat):List (Nat×Slot):=[sl 0 (.v (.func (.yield l) #[] #[])),sl 1 (.rp m.cells 0),sl 7 m.sBodies.sv,sl 8 (i64 m.sBodies.n),sl 9 (i64 i)]
theorem Rf:bsB=.seq (Vo bsB) (.seq (.region 3 bs3 false) (.cond (.tmp 31) .ret .skip)):=by kernel_rfl
theorem LG{m:UY}{i:Nat}(h1:¬(m.sBodies.e i).iD=m.bID)(h2:(m.sBodies.e i).jY m.b=false):m.ZO i=true:=by unfold UY.ZO;rw[UB h1,h2];rfl
theorem LI{m:UY}{i:Nat}(h1:(m.sBodies.e i).iD=m.bID):m.ZO i=false:=by unfold UY.ZO;rw[UA (λh=>h h1)]
theorem LH{m:UY}{i:Nat}(h2:(m.sBodies.e i).jY m.b=true):m.ZO i=false:=by unfold UY.ZO;rw[h2];cases decide (¬(m.sBodies.e i).iD=m.bID)<;>rfl
noncomputable def bI:Yj:=gO (C:=cx) [jH] [] 0
def bH:X1:=⟨[1003],[],[],0⟩
theorem Rb:bs3.toList.length=16+3:=by kernel_rfl
theorem Re:(bs3[13]?).bind (·.dst)=some 26:=by kernel_rfl
theorem Rc:To bs3 16 13 29 30 31 26 27 [28]:=⟨_,_,_,_,_,_,_,_,_,_,_,by rfl⟩
set_option maxHeartbeats 2000000 in
theorem Gq(m:UY)(l i:Nat)(hn:m.sBodies.n<=1000)(hi:i<m.sBodies.n):ev (C:=cx) [jH] Tryz.f235.ntmps 0 bI [] bH (Vo bsB) ⟨KU m l i,[],0,0,[],[]⟩ (λx st=>match x with
  | .normal=>YG (C:=cx) [jH] Tryz.f235.ntmps bI [] true bs3 false 0 16 (m.ZO i) 26 27 l [28] [(m.sBodies.e i).sv] (KU m l i) st
  | _=>False):=by
 obtain⟨c,hc⟩:∃c,c=m.ZO i:=⟨_,rfl⟩
 rw[<-hc];refine Ai ⟨by omega,by omega⟩ ?_;refine YG.mk ?_;have e1:∀{b:Bool},decide (¬(m.sBodies.e i).iD=m.bID)=b->(match b with|true=>¬(m.sBodies.e i).iD=m.bID|false=>(m.sBodies.e i).iD=m.bID):=λ{b} h=>by
  cases b with
  | true=>exact Od h
  | false=>exact Decidable.of_not_not (Uy h)
 refine Ai (λh1=>?_) (λh1=>?_)
 ·have h1:¬(m.sBodies.e i).iD=m.bID:=e1 (b:=true) h1;refine Ai (λh2=>?_) (λh2=>?_)
  ·have h2:(!(m.sBodies.e i).jY m.b)=true:=h2;have h2:(m.sBodies.e i).jY m.b=false:=(by simpa using h2);obtain rfl:c=true:=hc.trans (LG h1 h2);refine⟨[],[],?_⟩;repeat' (first|refine Ai ?_ ?_|intro _|exact rfl)
  have h2:(!(m.sBodies.e i).jY m.b)=false:=h2;have h2:(m.sBodies.e i).jY m.b=true:=(by simpa using h2);obtain rfl:c=false:=hc.trans (LH h2);refine⟨[],[],?_⟩;repeat' (first|refine Ai ?_ ?_|intro _|exact rfl)
 have h1:(m.sBodies.e i).iD=m.bID:=e1 (b:=false) h1;obtain rfl:c=false:=hc.trans (LI h1);refine⟨[],[],?_⟩;repeat' (first|refine Ai ?_ ?_|intro _|exact rfl)
set_option maxHeartbeats 4000000 in
theorem Qj(m:UY)(hn:m.sBodies.n<=1000):OK cx 235 [.rp m.cells 0] (ca m m.sBodies.n).length (λk=>[((ca m m.sBodies.n).getD k Xk).sv]):=by
 refine DF (Γ:=[jH]) (I:=bI) (inls:=[]) (h:=bH) (fn:=Tryz.f235) (A:=Vo ibB) (T:=Vo bsL) (B:=bsB) (S:=Ve (Ve (Ve bsL))) (cT:=10) (b0:=0) (b1:=1) (cA follows 0) follows Tryz.func235 (by kernel_rfl) rfl (by kernel_rfl) (by kernel_rfl) (by kernel_rfl) (by kernel_rfl)
  m.sBodies.n (λi=>(ca m i).length) _ (KU m) (by rfl) (λ_ _=>by rfl) (λ_ _=>by rfl) (λ_ _=>by rfl) (by rfl) ?_ ?_ ?_ ?_
 ·intro l;refine⟨[],[],?_⟩;repeat' (first|refine Ai ?_ ?_|intro _|exact rfl)
 ·intro l i hi;refine⟨[],[],?_⟩;repeat' (first|refine Ai ?_ ?_|intro _|exact rfl)
  all_goals exact decide_eq_decide.2 (by omega)
 ·intro l J Y i z a W hi hj Yu;rw[Rf];have XM:∀n b,(aB z).VK.n n=some b->n<0:=λn b h=>(by cases h);have Ws:∀e l,(aB z).VK.v e=some l->e<0∧l.o<0:=λn b h=>(by cases h);have WS:∀m i l,(aB z).VK.k m i=some l->m<0:=λn b m h=>(by cases h);have hcn:m.ZO i=true->(ca m (i+1)).length=(ca m i).length+1∧(ca m i).length<(ca m m.sBodies.n).length∧(λk=>[((ca m m.sBodies.n).getD k Xk).sv]) (ca m i).length=[(m.sBodies.e i).sv]:=λhw=>(by obtain⟨k1,k2⟩:=oE (f:=m.sBodies.e) (g:=m.ZO) (d:=Xk) hw _ hi;exact⟨by unfold ca;rw[fJ hw];simp,k2,Uv (λb:Body=>[b.sv]) k1⟩);refine fH (cR (cX (Γ:=[jH]) (I:=bI) (inls:=[]) (h:=bH) (nm0:=0) (cA follows 0) follows XM Ws WS (Vo bsB) ⟨KU m l i,[],0,0,[],[]⟩ _ (by kernel_rfl) (Gq m l i hn hi) _ a W (Yu.rp rfl)) ?_);rintro e a1 W1 ⟨x,st,ρ,rfl,hk,hr⟩;cases x with
  | exit j=>exact hk.elim
  | ret=>exact hk.elim
  | normal=>
  have WL:YG (C:=cx) [jH] Tryz.f235.ntmps bI [] true bs3 false 0 16 (m.ZO i) 26 27 l [28] [(m.sBodies.e i).sv] (KU m l i) st:=hk;have hY:=AI (id:=3) Y (Γ:=[jH]) (I:=bI) (inls:=[]) (cA follows 0) follows Rc Re ⟨by decide,by decide⟩ ⟨by decide,by decide⟩ (λh=>by cases h) (by decide) Rb (by kernel_rfl) (by kernel_rfl) (by kernel_rfl) ⟨rfl,rfl,λt ht=>by obtain rfl:=List.mem_singleton.1 ht;rfl,rfl,rfl,rfl⟩ (by decide) rfl rfl rfl (λh=>(hcn h).2) hj hr WL;refine fH (cR hY ?_);rintro e a2 W2 ⟨rfl,hv,z',XR,hp'⟩;refine gJ hv (nU ⟨.inl rfl,z',?_,hp'⟩);cases hw:m.ZO i with
  | true=>rw[(hcn hw).1];rw[hw] at XR;exact XR
  | false=>
   have e:ca m (i+1)=ca m i:=iq hw;rw[hw] at XR;rw[e];exact XR
 intro l i hi;refine Ai (by unfold U1;omega:U1 ((i:Int)+1)) ?_;refine⟨[],[],?_⟩;repeat' (first|refine Ai ?_ ?_|intro _|exact rfl)
end Go.Proofs.YtgigkennhdolpaaGreatDoor
