/-
  Program's code interpreted over typed values; printed texts; plain laws. No conditions.
-/
import Derived.Test.YtnemiodjnhfejaaGreatLTc
import Derived.Test.YtnemiodjnhfejaaGreatLTa
import Derived.Test.YtnemiodjnhfejaaGreatProg
set_option linter.unusedVariables false
namespace Go.PI
open Go
theorem jnJ {e:Ty} {w w':World} {F:Nat->Nat} {St:Nat->Prop} {Al:Nat->Prop} {ms ef:List Nat} {b o cap bl:Nat} {us:List (Elem e)} {τ:Ty} {a:Bool} {x:El τ} {tg:List Tag} {bc:Array Value} {bT:TypeId} (hSt:∀ y,St y->y<w.heap.size/\y ∉ ms) (hE:Ext (·= b) w w')
  (hb:b∈ms/\b<w.heap.size) (hnd:((b::(us.map (·.fp)).flatten)++(ef++[bl])).Nodup) (hms:∀ y∈(us.map (·.fp)).flatten++(ef++[bl]),y∈ms/\y<w.heap.size)
  (hR:∀ u∈us,Rp w F St Al e (List.replicate (Z06 e) .O) u.cs u.x u.fp) (hc:∀ k (h:k<us.length),Z05 w' b (o+k * size e) (size e)=some us[k].cs) (hcap:us.length<=cap) (hrow:Z3i e w' b (o+cap * size e))
  (hbl:w.heap[bl]? = some (.cells bc bT (0,0))) (hbR:Rp w F St (·∈ ef) τ tg bc.toList x ef) (htg:∀ t∈tg,t.isN=false) :
  RetOk w F St ms [bl] [⟨.slice e,false,us.map (·.x),[.O]⟩] [] [] [⟨τ,a,x,tg⟩] (.slice (some ⟨b,o,none⟩) us.length cap) w':=by
 have hn1:=List.nodup_append.1 hnd
 have hbf:b ∉ (us.map (·.fp)).flatten:=(List.nodup_cons.1 hn1.1).1
 have hin:∀ u∈us,∀ y∈u.fp,y∈(us.map (·.fp)).flatten:=λu hu y hy=>List.mem_flatten.2 ⟨u.fp,List.mem_map_of_mem hu,hy⟩
 have hne:∀ y∈ef++[bl],y≠b:=λy hy h=>hn1.2.2 b (by simp) y hy h.symm
 have hSb:∀ y,St y->y≠b:=λy hy h=>(hSt y hy).2 (h ▸ hb.1)
 refine ⟨λy=>if y=b then o+us.length * size e else F y,St,[.slice (some ⟨b,o,none⟩) us.length cap],[b::(us.map (·.fp)).flatten],[ef],⟨rfl,rfl,rfl⟩,⟨⟨rfl,rfl,?_⟩,trivial⟩,⟨⟨bc,bT,?_,?_⟩,trivial⟩,⟨hE.os,hE.tape,hE.output,hE.size,λy hy hm=>hE.block y hy λh=>hm (h ▸ hb.1)⟩,λy hy hym=> ?_,λy hy=>hy,λy hy=>⟨.inl hy,Nat.lt_of_lt_of_le (hSt y hy).1 hE.size⟩,?_,λy hy=> ?_⟩
 ·refine Z9p (w:=w') (t:= .O) rfl (b:=b) (o:=o) (cap:=cap) (us:=us) (fps:=us.map (·.fp)) (Al:=(·∈ b::(us.map (·.fp)).flatten)) (by simp) (by simp) hcap hrow (F:=λy=>if y=b then o+us.length * size e else F y) (if_pos rfl) hc λk hk=> ?_
  have hu:us[k]∈us:=List.getElem_mem hk
  have hfp:(us.map (·.fp)).getD k []=us[k].fp:=by rw [List.getD_eq_getElem?_getD,List.getElem?_map,List.getElem?_eq_getElem hk];rfl
  rw [hfp]
  refine Rp.presO (hR _ hu) (λt ht=>(List.mem_replicate.1 ht).2) λy hy=> ?_
  have hyb:y≠b:=λh=>hbf (h ▸ hin _ hu y hy)
  have hF:(if y=b then o+us.length * size e else F y)=F y:=if_neg hyb
  exact ⟨Z07.of_block (hE.block y (hms y (List.mem_append_left _ (hin _ hu y hy))).2 hyb) (by rw [hF];exact Nat.le_refl _),hF,λ_=>List.mem_cons_of_mem _ (hin _ hu y hy)⟩
 ·rw [hE.block bl (hms bl (by simp)).2 (hne bl (by simp))]
  exact hbl
 ·refine Rp.pres (F':=λy=>if y=b then o+us.length * size e else F y) (St':=St) (Al':=(·∈ ef)) (λ_ h=>h) (λ_ _ h=>h) (λy hy=> ?_) hbR (λy hy=> ?_) (.inl htg)
  ·have hyb:=hSb y hy
   exact Z07.of_block (hE.block y (hSt y hy).1 hyb) (by rw [if_neg hyb];exact Nat.le_refl _)
  ·have hyb:=hne y (List.mem_append_left _ hy)
   exact ⟨Z07.of_block (hE.block y (hms y (List.mem_append_right _ (List.mem_append_left _ hy))).2 hyb) (by rw [if_neg hyb];exact Nat.le_refl _),if_neg hyb⟩
 ·exact if_neg λh2=>hym (by rw [h2];exact hb.1)
 ·simpa using hnd
 ·have hy:y=b\/y∈(us.map (·.fp)).flatten++(ef++[bl]):=by simpa using hy
  rcases hy with rfl | hy
  ·exact ⟨.inr hb.1,Nat.lt_of_lt_of_le hb.2 hE.size,λh=>hSb y h rfl⟩
  ·exact ⟨.inr (hms y hy).1,Nat.lt_of_lt_of_le (hms y hy).2 hE.size,λh=>(hSt y h).2 (hms y hy).1⟩
noncomputable def jjH (kk:Bool->Res):List TVal->List TVal->List TVal->Res:=λrs _ _=>match rs with
 | [v]=>bif v.ag then none else Z86 v .bool kk
 | _=>none
theorem jjI {kk:Bool->Res} {a b c:List TVal} {r:Unit} (h:jjH kk a b c=some r):∃ bb tg,a=[⟨.bool,false,bb,tg⟩]/\kk bb=some r:=by
 unfold jjH at h
 match a,h with
 | [⟨τ,ag,x,tg⟩],h=>
  cases ag with
  | true=>cases h
  | false=>
   have h:Z86 (⟨τ,false,x,tg⟩:TVal) .bool kk=some r:=h
   obtain ⟨a',x',t',h1,h2⟩:=Z8C h
   cases h1
   exact ⟨_,_,rfl,h2⟩
 | [],h=>cases h
 | _::_::_,h=>cases h
noncomputable def jn1 (e:Ty) (g:FuncId) (ag:Bool) (τ:Ty) (tg:List Tag) (gs:Sig Unit):Sig Unit:=⟨[.eat (.slice e) false,.clos g [τ]],[false],λvals ext k=>ao vals (.slice e) [.O] λl vals=>nl vals<|ab ext τ tg λa x ext=>nl ext <|
 bif lim (List.length (α:=El e) l) then
  dgE (λ(y:El e) kk=>gs.run [⟨e,ag,y,[]⟩,⟨τ,false,x,[]⟩] [] (jjH kk)) l [] (λ(r:List (El e))=>k [⟨.slice e,false,r,[.O]⟩] [] [⟨τ,a,x,tg⟩]) else none⟩
theorem jqF {P:Program} {S E I B U T:TypeId} {e:Ty} {z:Value} {tys:List (TypeId×Ty×List TypeId)} {fl:List TypeId} {ag:Bool} {τ:Ty} {tg:List Tag} (L:SlT P S E I B (size e) z) (hT:Z0e P tys) (ht:Z0o tys E=some (e,fl)) (hag:ag= !fl.isEmpty) (aE:∀ w,(isAgg E).run P w= .ok ag w) (aT:∀ w,(isAgg T).run P w= .ok false w) (zT:∀ w,(sizeOf T).run P w= .ok 1 w)
  (hk1:Nat.ble 1 (size e)=true) (hk2:(ag||Nat.beq (size e) 1)=true) (htg:tg.all (λt=> !t.isN)=true)
  {fx : FuncId} {fnx : Func} (hfx : P.funcs[fx]? = some fnx) (hbx : fnx.body = some (j6w S E I B U T)) (hnx : fnx.ntmps = 19) (hrx : fnx.results = #[.tmp 4]) (hnamex : (fnx.name == "runtime.NumGoroutine") = false)
  {g:FuncId} {gs:Sig Unit} (hg:Z17 P g gs) (hgm:gs.modes=[.look e ag,.rptr τ])
  {f : FuncId} {fn : Func} (hf : P.funcs[f]? = some fn) (hb : fn.body = some (jfb S E I B U T fx)) (hn : fn.ntmps = 42) (hr : fn.results = #[.tmp 4]) (hname : (fn.name == "runtime.NumGoroutine") = false) : Z17 P f (jn1 e g ag τ tg gs) := by
 refine ⟨⟨fn,_,hf,hname,hb⟩,λvals ext k r h w F St args ads fps efps hA hB hnd hSt hlt=> ?_⟩
 obtain ⟨a0,l,vals,rfl,h3⟩:=Zao h
 obtain ⟨rfl,h4⟩:=Zaw h3
 obtain ⟨a1,t,ext,rfl,h5⟩:=Zan h4
 obtain ⟨rfl,h6⟩:=Zaw h5
 clear h h3 h4 h5
 have h:=h6
 clear h6
 rw [cond_eq_ite] at h
 split at h
 rotate_left
 ·cases h
 rename_i hlim
 change List (El e) at l
 have hlim:l.length<=LIM:=of_decide_eq_true hlim
 obtain ⟨ad,cap,f0,ar,fs,rfl,rfl,hlc,hr0,hA1⟩:=jcP (e:=e) (l:=l) hA
 obtain ⟨bl,rfl,rfl,rfl⟩:=jjG hA1
 cases efps with
 | nil=>exact hB.elim
 | cons ef efs=>
 obtain ⟨⟨bc,bT,hbl,hbr⟩,hB2⟩:=hB
 cases efs with
 | cons a b=>exact hB2.elim
 | nil=>
 have htgN:[(⟨τ,a1,t,tg⟩:TVal)].all TVal.noN=true:=by
  have htg:∀ t∈tg,t.isN=false:=λt ht=>by have:=List.all_eq_true.1 htg t ht;simpa using this
  simp only [List.all_cons,List.all_nil,Bool.and_true,TVal.noN]
  exact List.all_eq_true.2 λt ht=>by simp [htg t ht]
 by_cases hpos:0<l.length
 rotate_left
 ·have hl0:l=[]:=List.length_eq_zero_iff.1 (by omega)
  subst hl0
  simp only [List.flatten_cons,List.flatten_nil,List.append_nil] at hnd hSt hlt ⊢
  refine (jrJ L aT zT hfx hbx hnx hrx (Z6j hfx hnamex hbx) hf hb hn hr g #[.pointer (some ⟨bl,0,none⟩)] ad cap w).mono ?_
  rintro e' w' ⟨rfl,rfl⟩
  refine ⟨_,_,_,_,rfl,h,⟨by simp [Z2V],rfl,rfl⟩,htgN,⟨F,St,[_],[f0],[ef],⟨rfl,rfl,rfl⟩,⟨⟨rfl,rfl,hr0⟩,trivial⟩,⟨⟨bc,bT,hbl,hbr⟩,trivial⟩,Ext.refl _ _,λ_ _ _=>rfl,λ_ h=>h,λy hy=>⟨.inl hy,(hSt y hy).1⟩,by simpa using hnd,λy hy=> ?_⟩⟩
  have hy:y∈f0++(ef++[bl]):=by simpa using hy
  exact ⟨.inr hy,hlt y hy,λhh=>(hSt y hh).2 hy⟩
 obtain ⟨b,o,us,cur,tt,fz,rfl,hux,hul,rfl,huR,hgc,hsz,hth,hmk,hcells⟩:=jg4 hr0 (.inl hpos)
 simp only [List.flatten_cons,List.flatten_nil,List.append_nil] at hnd hSt hlt ⊢
 have htg:∀ t∈tg,t.isN=false:=λt ht=>by have:=List.all_eq_true.1 htg t ht;simpa using this
 have hn1:=List.nodup_append.1 hnd
 have hk1:0<size e:=Nat.le_of_ble_eq_true hk1
 have hbw:b<w.heap.size:=(Array.getElem?_eq_some_iff.1 hgc).1
 have hne:∀ y∈ef++[bl],y≠b:=λy hy hh=>hn1.2.2 b (by simp) y hy hh.symm
 have hSb:∀ y,St y->y≠b:=λy hy hh=>(hSt y hy).2 (by rw [hh];simp)
 have hin:∀ u∈us,∀ y∈u.fp,y∈(us.map (·.fp)).flatten:=λu hu y hy=>List.mem_flatten.2 ⟨u.fp,List.mem_map_of_mem hu,hy⟩
 have hub:∀ u∈us,∀ y∈u.fp,y≠b:=λu hu y hy hh=>(List.nodup_cons.1 hn1.1).1 (hh ▸ hin u hu y hy)
 have hun:∀ u∈us,∀ y∈u.fp,y<w.heap.size:=λu hu y hy=>hlt y (by simp only [List.cons_append,List.mem_cons,List.mem_append];exact .inr (.inl (hin u hu y hy)))
 have hefn:∀ y∈ef++[bl],y<w.heap.size:=λy hy=>hlt y (List.mem_append_right _ hy)
 obtain ⟨K,hK⟩:∃ K:List (El e)->Res,K=λrr=>k [⟨.slice e,false,rr,[.O]⟩] [] [⟨τ,a1,t,tg⟩]:=⟨_,rfl⟩
 obtain ⟨gg,hgg⟩:∃ gg:El e->(Bool->Res)->Res,gg=λy kk=>gs.run [⟨e,ag,y,[]⟩,⟨τ,false,t,[]⟩] [] (jjH kk):=⟨_,rfl⟩
 obtain ⟨D,hD⟩:∃ D:Nat->List (Elem e)->Prop,D=λj acc=>dgE gg ((us.drop j).map (·.x)) (acc.map (·.x)) K=some r:=⟨_,rfl⟩
 have hDe:∀ j acc,D j acc->dgE gg ((us.drop j).map (·.x)) (acc.map (·.x)) K=some r:=λj acc hh=>by rw [hD] at hh;exact hh
 have hDi:∀ j acc,dgE gg ((us.drop j).map (·.x)) (acc.map (·.x)) K=some r->D j acc:=λj acc hh=>by rw [hD];exact hh
 have hD0:D 0 []:=hDi 0 [] (by rw [List.drop_zero,hux,hgg,hK];exact h)
 have hcl:∀ u∈us,u.cs.length=size e:=λu hu=>(huR u hu).len.1
 have h1:∀ u∈us,∀ c∈u.cs,one c=true:=λu hu c hc=>Rp.ones (huR u hu) c hc
 have hasks:∀ W,Ext (·= b) w W->jgY P g #[.pointer (some ⟨bl,0,none⟩)] (!fl.isEmpty) us D W:=by
  intro W hW j hj acc hacc
  rw [<-hag]
  have hu:us[j]∈us:=List.getElem_mem hj
  have hacc:=hDe j acc hacc
  rw [List.drop_eq_getElem_cons hj,List.map_cons] at hacc
  have hacc:gg us[j].x (λbb=>dgE gg ((us.drop (j+1)).map (·.x)) (bif bb then acc.map (·.x) else acc.map (·.x)++[us[j].x]) K)=some r:=hacc
  rw [hgg] at hacc
  obtain ⟨q1,q2⟩:=Z1h (ag:=ag) (h1 _ hu) (λhh=>by rw [hcl _ hu];rw [hh] at hk2;exact Nat.eq_of_beq_eq_true (by simpa using hk2))
  have hAl:∀ (M:Nat->Prop),(∀ y,M y->y<w.heap.size)->∀ y,M y->Old W y:=λM hM y hy=>Nat.lt_of_lt_of_le (hM y hy) hW.size
  have hStO:∀ y,St y->Old W y:=hAl St λy hy=>(hSt y hy).1
  have top:∀ {τ:Ty} {tg:List Tag} {cs:List Value} {x:El τ} {fp:List Nat} {Al:Nat->Prop},(∀ y,Al y->y<w.heap.size)->Rp w F St Al τ tg cs x fp->(∀ t∈tg,t.isN=false)->(∀ y∈fp,y<w.heap.size/\y≠b)->Rp W (Z2w W F) (Old W) (Old W) τ (List.replicate (Z06 τ) .S) cs x []:=by
   intro τ tg cs x fp Al hM hR htg hfp
   have h1:Rp W F St Al τ tg cs x fp:=Rp.pres (F':=F) (λ_ h=>h) (λ_ _ h=>h) (λy hy=>Z07.of_block (hW.block y (hSt y hy).1 (hSb y hy)) (Nat.le_refl _)) hR (λy hy=>⟨Z07.of_block (hW.block y (hfp y hy).1 (hfp y hy).2) (Nat.le_refl _),rfl⟩) (.inl htg)
   have h2:Rp W F (Old W) (Old W) τ (List.replicate (Z06 τ) .S) cs x []:=h1.toS (hAl Al hM) hStO
   exact h2.pres (λ_ h=>h) (λ_ _ h=>h) (λy _=>Z07.of_block rfl (Z6v _ _ _)) (by simp) (.inl λt ht=>by rw [(List.mem_replicate.1 ht).2];rfl)
  have hAs:Z0t W (Z2w W F) (Old W) gs.modes [⟨e,ag,us[j].x,[]⟩,⟨τ,false,t,[]⟩] [Z0K ag us[j].cs,.pointer (some ⟨bl,0,none⟩)] [[],[]] []:=by
   rw [hgm]
   refine ⟨rfl,q2,?_,rfl,?_,trivial⟩
   ·rw [q1]
    exact top (Al:=(·∈ b::(us.map (·.fp)).flatten)) (λy hy=>hlt y (List.mem_append_left _ hy)) (huR _ hu) (λt ht=>by rw [(List.mem_replicate.1 ht).2];rfl) (λy hy=>⟨hun _ hu y hy,hub _ hu y hy⟩)
   ·have hbW:W.heap[bl]? = some (.cells bc bT (0,0)):=by rw [hW.block bl (hefn bl (by simp)) (hne bl (by simp))];exact hbl
    have hbl2:=hbr.len.1
    have hca:Z05 W bl 0 (size τ)=some bc.toList:=by
     unfold Z05
     rw [hbW]
     simp only []
     rw [if_pos (by rw [<-hbl2];simp),List.drop_zero,List.take_of_length_le (by rw [hbl2];exact Nat.le_refl _)]
    exact ⟨bl,0,bc.toList,rfl,hca,Z0X hca,Z4v hca,top (Al:=(·∈ ef)) (λy hy=>hefn y (List.mem_append_left _ hy)) hbr htg (λy hy=>⟨hefn y (List.mem_append_left _ hy),hne y (List.mem_append_left _ hy)⟩)⟩
  have:=hg.2 _ [] _ r hacc W (Z2w W F) (Old W) _ [] _ [] hAs trivial (by simp) (λy hy=>⟨hy,by simp⟩) (by simp)
  refine this.mono λx w'=> ?_
  rintro ⟨v,res,ios,ext',rfl,hkr,⟨_,hios,_⟩,_,F',St',vs,rfps,efps',⟨rfl,hil,hvl⟩,hres,hbox,hE,_⟩
  obtain ⟨bb,tb,rfl,hbb⟩:=jjI hkr
  rw [hgm] at hios hil hres
  have:ios=[]:=by
   cases ios with
   | nil=>rfl
   | cons _ _=>cases hios
  subst this
  obtain ⟨v1,rfl⟩:∃ v1,vs=[v1]:=by
   match vs,hvl with
   | [v1],_=>exact ⟨v1,rfl⟩
  have hres:Z3a w' F' St' [⟨.bool,false,bb,tb⟩] [v1] rfps:=hres
  cases rfps with
  | nil=>exact hres.elim
  | cons rf rfs=>
   obtain ⟨⟨hs1,_,hR1⟩,_⟩:=hres
   obtain rfl:=Z5L hs1 hR1
   refine ⟨bb,rfl,?_,⟨hE.os,hE.tape,hE.output,hE.size,λy hy _=>hE.block y hy (by simp)⟩⟩
   apply hDi
   rw [hgg]
   cases bb
   ·simpa using hbb
   ·exact hbb
 have hlimn:l.length<=9223372036854775807:=by unfold LIM at hlim;omega
 have hEg:∀ args w,(callFunc g args).run P w= .ok (.enter g args) w:=by
  obtain ⟨fng,cg,hg1,hg2,hg3⟩:=hg.1
  exact Z6j hg1 hg2 hg3
 refine (jqE L hT ht (λw=>by rw [<-hag];exact aE w) aT zT hfx hbx hnx hrx (Z6j hfx hnamex hbx) hf hb hn hr g #[.pointer (some ⟨bl,0,none⟩)] hEg b o l.length cap us D w hasks hD0 hul hgc hth hsz hlc hlimn h1 hcl (λhh=>by rw [hag,hh] at hk2;exact Nat.eq_of_beq_eq_true (by simpa using hk2)) hk1 hcells).mono ?_
 rintro e' w' ⟨ka,rfl,hDn,hsub,hE,ck,hg',hck,hkc⟩
 have hDn:=hDe _ _ hDn
 rw [List.drop_of_length_le (by rw [hul];exact Nat.le_refl _),hK] at hDn
 have hDn:k [⟨.slice e,false,ka.map (·.x),[.O]⟩] [] [⟨τ,a1,t,tg⟩]=some r:=hDn
 have hkl:ka.length<=cap:=Nat.le_trans (by rw [<-hul];exact hsub.length_le) hlc
 have hckl:ck.toList.length=ck.size:=by simp
 have hfsub:((ka.map (·.fp)).flatten).Sublist (us.map (·.fp)).flatten:=jeH (hsub.map _)
 refine ⟨_,_,_,_,rfl,hDn,⟨by simp [Z2V],rfl,rfl⟩,?_,jnJ (Al:=(·∈ b::(us.map (·.fp)).flatten)) (o:=o) (us:=ka) hSt hE ⟨by simp,hbw⟩ ?_ (λy hy=> ?_) (λu hu=>huR u (hsub.subset hu)) (λq hq=> ?_) hkl ⟨⟨ck,tt,fz,hg',by rw [hck];exact hsz,λx hx=>hth x (by rw [<-hck];exact hx)⟩,hmk.imp id λhm=>hm.same hgc hg' hck⟩ hbl hbr htg⟩
 ·simp only [List.all_cons,List.all_nil,Bool.and_true,TVal.noN]
  exact List.all_eq_true.2 λt ht=>by simp [htg t ht]
 ·exact (List.Sublist.append (hfsub.cons_cons b) (List.Sublist.refl _)).nodup hnd
 ·have hy':y∈(us.map (·.fp)).flatten++(ef++[bl]):=(List.Sublist.append hfsub (List.Sublist.refl _)).subset hy
  have hy2:y∈b::(us.map (·.fp)).flatten++(ef++[bl]):=List.mem_cons_of_mem _ hy'
  exact ⟨hy2,hlt y hy2⟩
 ·have m1:(q+1) * size e<=cap * size e:=Nat.mul_le_mul_right _ (by omega)
  rw [Nat.add_mul,Nat.one_mul] at m1
  unfold Z05
  rw [hg']
  simp only []
  rw [if_pos (by omega),hkc q hq]
theorem jpQ {P:Program} {S E I B U T:TypeId} {e:Ty} {z:Value} {tys:List (TypeId×Ty×List TypeId)} {fl:List TypeId} {ag:Bool} {τ:Ty} {tg:List Tag} (L:SlT P S E I B (size e) z) (hT:Z0e P tys) (ht:Z0o tys E=some (e,fl)) (hag:ag= !fl.isEmpty) (aE:∀ w,(isAgg E).run P w= .ok ag w) (aT:∀ w,(isAgg T).run P w= .ok false w) (zT:∀ w,(sizeOf T).run P w= .ok 1 w)
  (hk1:Nat.ble 1 (size e)=true) (hk2:(ag||Nat.beq (size e) 1)=true) (htg:tg.all (λt=> !t.isN)=true)
  {fx : FuncId} {fnx : Func} (hfx : P.funcs[fx]? = some fnx) (hbx : fnx.body = some (j6w S E I B U T)) (hnx : fnx.ntmps = 19) (hrx : fnx.results = #[.tmp 4]) (hnamex : (fnx.name == "runtime.NumGoroutine") = false)
  {g:FuncId} {gs:Sig Unit} (hg:Z17 P g gs) (hgm:gs.modes=[.look e ag,.rptr τ])
  {f : FuncId} {fn : Func} (hf : P.funcs[f]? = some fn) (hb : fn.body = some (jcB S E I B U T fx)) (hn : fn.ntmps = 42) (hr : fn.results = #[.tmp 4]) (hname : (fn.name == "runtime.NumGoroutine") = false) : Z17 P f (jn1 e g ag τ tg gs) := by
 refine ⟨⟨fn,_,hf,hname,hb⟩,λvals ext k r h w F St args ads fps efps hA hB hnd hSt hlt=> ?_⟩
 obtain ⟨a0,l,vals,rfl,h3⟩:=Zao h
 obtain ⟨rfl,h4⟩:=Zaw h3
 obtain ⟨a1,t,ext,rfl,h5⟩:=Zan h4
 obtain ⟨rfl,h6⟩:=Zaw h5
 clear h h3 h4 h5
 have h:=h6
 clear h6
 rw [cond_eq_ite] at h
 split at h
 rotate_left
 ·cases h
 rename_i hlim
 change List (El e) at l
 have hlim:l.length<=LIM:=of_decide_eq_true hlim
 obtain ⟨ad,cap,f0,ar,fs,rfl,rfl,hlc,hr0,hA1⟩:=jcP (e:=e) (l:=l) hA
 obtain ⟨bl,rfl,rfl,rfl⟩:=jjG hA1
 cases efps with
 | nil=>exact hB.elim
 | cons ef efs=>
 obtain ⟨⟨bc,bT,hbl,hbr⟩,hB2⟩:=hB
 cases efs with
 | cons a b=>exact hB2.elim
 | nil=>
 have htgN:[(⟨τ,a1,t,tg⟩:TVal)].all TVal.noN=true:=by
  have htg:∀ t∈tg,t.isN=false:=λt ht=>by have:=List.all_eq_true.1 htg t ht;simpa using this
  simp only [List.all_cons,List.all_nil,Bool.and_true,TVal.noN]
  exact List.all_eq_true.2 λt ht=>by simp [htg t ht]
 by_cases hpos:0<l.length
 rotate_left
 ·have hl0:l=[]:=List.length_eq_zero_iff.1 (by omega)
  subst hl0
  simp only [List.flatten_cons,List.flatten_nil,List.append_nil] at hnd hSt hlt ⊢
  refine (jry L aT zT hfx hbx hnx hrx (Z6j hfx hnamex hbx) hf hb hn hr g #[.pointer (some ⟨bl,0,none⟩)] ad cap w).mono ?_
  rintro e' w' ⟨rfl,rfl⟩
  refine ⟨_,_,_,_,rfl,h,⟨by simp [Z2V],rfl,rfl⟩,htgN,⟨F,St,[_],[f0],[ef],⟨rfl,rfl,rfl⟩,⟨⟨rfl,rfl,hr0⟩,trivial⟩,⟨⟨bc,bT,hbl,hbr⟩,trivial⟩,Ext.refl _ _,λ_ _ _=>rfl,λ_ h=>h,λy hy=>⟨.inl hy,(hSt y hy).1⟩,by simpa using hnd,λy hy=> ?_⟩⟩
  have hy:y∈f0++(ef++[bl]):=by simpa using hy
  exact ⟨.inr hy,hlt y hy,λhh=>(hSt y hh).2 hy⟩
 obtain ⟨b,o,us,cur,tt,fz,rfl,hux,hul,rfl,huR,hgc,hsz,hth,hmk,hcells⟩:=jg4 hr0 (.inl hpos)
 simp only [List.flatten_cons,List.flatten_nil,List.append_nil] at hnd hSt hlt ⊢
 have htg:∀ t∈tg,t.isN=false:=λt ht=>by have:=List.all_eq_true.1 htg t ht;simpa using this
 have hn1:=List.nodup_append.1 hnd
 have hk1:0<size e:=Nat.le_of_ble_eq_true hk1
 have hbw:b<w.heap.size:=(Array.getElem?_eq_some_iff.1 hgc).1
 have hne:∀ y∈ef++[bl],y≠b:=λy hy hh=>hn1.2.2 b (by simp) y hy hh.symm
 have hSb:∀ y,St y->y≠b:=λy hy hh=>(hSt y hy).2 (by rw [hh];simp)
 have hin:∀ u∈us,∀ y∈u.fp,y∈(us.map (·.fp)).flatten:=λu hu y hy=>List.mem_flatten.2 ⟨u.fp,List.mem_map_of_mem hu,hy⟩
 have hub:∀ u∈us,∀ y∈u.fp,y≠b:=λu hu y hy hh=>(List.nodup_cons.1 hn1.1).1 (hh ▸ hin u hu y hy)
 have hun:∀ u∈us,∀ y∈u.fp,y<w.heap.size:=λu hu y hy=>hlt y (by simp only [List.cons_append,List.mem_cons,List.mem_append];exact .inr (.inl (hin u hu y hy)))
 have hefn:∀ y∈ef++[bl],y<w.heap.size:=λy hy=>hlt y (List.mem_append_right _ hy)
 obtain ⟨K,hK⟩:∃ K:List (El e)->Res,K=λrr=>k [⟨.slice e,false,rr,[.O]⟩] [] [⟨τ,a1,t,tg⟩]:=⟨_,rfl⟩
 obtain ⟨gg,hgg⟩:∃ gg:El e->(Bool->Res)->Res,gg=λy kk=>gs.run [⟨e,ag,y,[]⟩,⟨τ,false,t,[]⟩] [] (jjH kk):=⟨_,rfl⟩
 obtain ⟨D,hD⟩:∃ D:Nat->List (Elem e)->Prop,D=λj acc=>dgE gg ((us.drop j).map (·.x)) (acc.map (·.x)) K=some r:=⟨_,rfl⟩
 have hDe:∀ j acc,D j acc->dgE gg ((us.drop j).map (·.x)) (acc.map (·.x)) K=some r:=λj acc hh=>by rw [hD] at hh;exact hh
 have hDi:∀ j acc,dgE gg ((us.drop j).map (·.x)) (acc.map (·.x)) K=some r->D j acc:=λj acc hh=>by rw [hD];exact hh
 have hD0:D 0 []:=hDi 0 [] (by rw [List.drop_zero,hux,hgg,hK];exact h)
 have hcl:∀ u∈us,u.cs.length=size e:=λu hu=>(huR u hu).len.1
 have h1:∀ u∈us,∀ c∈u.cs,one c=true:=λu hu c hc=>Rp.ones (huR u hu) c hc
 have hasks:∀ W,Ext (·= b) w W->jgY P g #[.pointer (some ⟨bl,0,none⟩)] (!fl.isEmpty) us D W:=by
  intro W hW j hj acc hacc
  rw [<-hag]
  have hu:us[j]∈us:=List.getElem_mem hj
  have hacc:=hDe j acc hacc
  rw [List.drop_eq_getElem_cons hj,List.map_cons] at hacc
  have hacc:gg us[j].x (λbb=>dgE gg ((us.drop (j+1)).map (·.x)) (bif bb then acc.map (·.x) else acc.map (·.x)++[us[j].x]) K)=some r:=hacc
  rw [hgg] at hacc
  obtain ⟨q1,q2⟩:=Z1h (ag:=ag) (h1 _ hu) (λhh=>by rw [hcl _ hu];rw [hh] at hk2;exact Nat.eq_of_beq_eq_true (by simpa using hk2))
  have hAl:∀ (M:Nat->Prop),(∀ y,M y->y<w.heap.size)->∀ y,M y->Old W y:=λM hM y hy=>Nat.lt_of_lt_of_le (hM y hy) hW.size
  have hStO:∀ y,St y->Old W y:=hAl St λy hy=>(hSt y hy).1
  have top:∀ {τ:Ty} {tg:List Tag} {cs:List Value} {x:El τ} {fp:List Nat} {Al:Nat->Prop},(∀ y,Al y->y<w.heap.size)->Rp w F St Al τ tg cs x fp->(∀ t∈tg,t.isN=false)->(∀ y∈fp,y<w.heap.size/\y≠b)->Rp W (Z2w W F) (Old W) (Old W) τ (List.replicate (Z06 τ) .S) cs x []:=by
   intro τ tg cs x fp Al hM hR htg hfp
   have h1:Rp W F St Al τ tg cs x fp:=Rp.pres (F':=F) (λ_ h=>h) (λ_ _ h=>h) (λy hy=>Z07.of_block (hW.block y (hSt y hy).1 (hSb y hy)) (Nat.le_refl _)) hR (λy hy=>⟨Z07.of_block (hW.block y (hfp y hy).1 (hfp y hy).2) (Nat.le_refl _),rfl⟩) (.inl htg)
   have h2:Rp W F (Old W) (Old W) τ (List.replicate (Z06 τ) .S) cs x []:=h1.toS (hAl Al hM) hStO
   exact h2.pres (λ_ h=>h) (λ_ _ h=>h) (λy _=>Z07.of_block rfl (Z6v _ _ _)) (by simp) (.inl λt ht=>by rw [(List.mem_replicate.1 ht).2];rfl)
  have hAs:Z0t W (Z2w W F) (Old W) gs.modes [⟨e,ag,us[j].x,[]⟩,⟨τ,false,t,[]⟩] [Z0K ag us[j].cs,.pointer (some ⟨bl,0,none⟩)] [[],[]] []:=by
   rw [hgm]
   refine ⟨rfl,q2,?_,rfl,?_,trivial⟩
   ·rw [q1]
    exact top (Al:=(·∈ b::(us.map (·.fp)).flatten)) (λy hy=>hlt y (List.mem_append_left _ hy)) (huR _ hu) (λt ht=>by rw [(List.mem_replicate.1 ht).2];rfl) (λy hy=>⟨hun _ hu y hy,hub _ hu y hy⟩)
   ·have hbW:W.heap[bl]? = some (.cells bc bT (0,0)):=by rw [hW.block bl (hefn bl (by simp)) (hne bl (by simp))];exact hbl
    have hbl2:=hbr.len.1
    have hca:Z05 W bl 0 (size τ)=some bc.toList:=by
     unfold Z05
     rw [hbW]
     simp only []
     rw [if_pos (by rw [<-hbl2];simp),List.drop_zero,List.take_of_length_le (by rw [hbl2];exact Nat.le_refl _)]
    exact ⟨bl,0,bc.toList,rfl,hca,Z0X hca,Z4v hca,top (Al:=(·∈ ef)) (λy hy=>hefn y (List.mem_append_left _ hy)) hbr htg (λy hy=>⟨hefn y (List.mem_append_left _ hy),hne y (List.mem_append_left _ hy)⟩)⟩
  have:=hg.2 _ [] _ r hacc W (Z2w W F) (Old W) _ [] _ [] hAs trivial (by simp) (λy hy=>⟨hy,by simp⟩) (by simp)
  refine this.mono λx w'=> ?_
  rintro ⟨v,res,ios,ext',rfl,hkr,⟨_,hios,_⟩,_,F',St',vs,rfps,efps',⟨rfl,hil,hvl⟩,hres,hbox,hE,_⟩
  obtain ⟨bb,tb,rfl,hbb⟩:=jjI hkr
  rw [hgm] at hios hil hres
  have:ios=[]:=by
   cases ios with
   | nil=>rfl
   | cons _ _=>cases hios
  subst this
  obtain ⟨v1,rfl⟩:∃ v1,vs=[v1]:=by
   match vs,hvl with
   | [v1],_=>exact ⟨v1,rfl⟩
  have hres:Z3a w' F' St' [⟨.bool,false,bb,tb⟩] [v1] rfps:=hres
  cases rfps with
  | nil=>exact hres.elim
  | cons rf rfs=>
   obtain ⟨⟨hs1,_,hR1⟩,_⟩:=hres
   obtain rfl:=Z5L hs1 hR1
   refine ⟨bb,rfl,?_,⟨hE.os,hE.tape,hE.output,hE.size,λy hy _=>hE.block y hy (by simp)⟩⟩
   apply hDi
   rw [hgg]
   cases bb
   ·simpa using hbb
   ·exact hbb
 have hlimn:l.length<=9223372036854775807:=by unfold LIM at hlim;omega
 have hEg:∀ args w,(callFunc g args).run P w= .ok (.enter g args) w:=by
  obtain ⟨fng,cg,hg1,hg2,hg3⟩:=hg.1
  exact Z6j hg1 hg2 hg3
 refine (jqD L hT ht (λw=>by rw [<-hag];exact aE w) aT zT hfx hbx hnx hrx (Z6j hfx hnamex hbx) hf hb hn hr g #[.pointer (some ⟨bl,0,none⟩)] hEg b o l.length cap us D w hasks hD0 hul hgc hth hsz hlc hlimn h1 hcl (λhh=>by rw [hag,hh] at hk2;exact Nat.eq_of_beq_eq_true (by simpa using hk2)) hk1 hcells).mono ?_
 rintro e' w' ⟨ka,rfl,hDn,hsub,hE,ck,hg',hck,hkc⟩
 have hDn:=hDe _ _ hDn
 rw [List.drop_of_length_le (by rw [hul];exact Nat.le_refl _),hK] at hDn
 have hDn:k [⟨.slice e,false,ka.map (·.x),[.O]⟩] [] [⟨τ,a1,t,tg⟩]=some r:=hDn
 have hkl:ka.length<=cap:=Nat.le_trans (by rw [<-hul];exact hsub.length_le) hlc
 have hckl:ck.toList.length=ck.size:=by simp
 have hfsub:((ka.map (·.fp)).flatten).Sublist (us.map (·.fp)).flatten:=jeH (hsub.map _)
 refine ⟨_,_,_,_,rfl,hDn,⟨by simp [Z2V],rfl,rfl⟩,?_,jnJ (Al:=(·∈ b::(us.map (·.fp)).flatten)) (o:=o) (us:=ka) hSt hE ⟨by simp,hbw⟩ ?_ (λy hy=> ?_) (λu hu=>huR u (hsub.subset hu)) (λq hq=> ?_) hkl ⟨⟨ck,tt,fz,hg',by rw [hck];exact hsz,λx hx=>hth x (by rw [<-hck];exact hx)⟩,hmk.imp id λhm=>hm.same hgc hg' hck⟩ hbl hbr htg⟩
 ·simp only [List.all_cons,List.all_nil,Bool.and_true,TVal.noN]
  exact List.all_eq_true.2 λt ht=>by simp [htg t ht]
 ·exact (List.Sublist.append (hfsub.cons_cons b) (List.Sublist.refl _)).nodup hnd
 ·have hy':y∈(us.map (·.fp)).flatten++(ef++[bl]):=(List.Sublist.append hfsub (List.Sublist.refl _)).subset hy
  have hy2:y∈b::(us.map (·.fp)).flatten++(ef++[bl]):=List.mem_cons_of_mem _ hy'
  exact ⟨hy2,hlt y hy2⟩
 ·have m1:(q+1) * size e<=cap * size e:=Nat.mul_le_mul_right _ (by omega)
  rw [Nat.add_mul,Nat.one_mul] at m1
  unfold Z05
  rw [hg']
  simp only []
  rw [if_pos (by omega),hkc q hq]
end Go.PI
namespace Go.PI
open Go
theorem jce:(τ:Ty)->∀ c∈zeroCells τ,one c=true
 | .int _,c,h=>by simp [zeroCells] at h;subst h;rfl
 | .bool,c,h=>by simp [zeroCells] at h;subst h;rfl
 | .str,c,h=>by simp [zeroCells] at h;subst h;rfl
 | .unit,c,h=>by simp [zeroCells] at h
 | .slice _,c,h=>by simp [zeroCells] at h;subst h;rfl
 | .pair a b,c,h=>by
  simp only [zeroCells,List.mem_append] at h
  exact h.elim (jce a c) (jce b c)
section
variable {P:Program} {tys:List (TypeId×Ty×List TypeId)} {S E I B U T:TypeId} {e:Ty} {fl:List TypeId}
theorem jcu (hT:Z0e P tys) {t:TypeId} {τ:Ty} {l:List TypeId} (h:Z0o tys t=some (τ,l)) (w:World):(sizeOf t).run P w= .ok (size τ) w:=by
 obtain ⟨i,z,hi,hs,_⟩:=(hT t τ l h).info
 simp [sizeOf,typeInfo,hi,hs]
theorem jks (hm:P.follows .mixedOrders=true) (hT:Z0e P tys) (hS:Z0o tys S=some (.slice e,[])) (hu:P.underlying S=some (.slice E)) (hI:Z0o tys I=some (.int .i64,[])) (hB:Z0o tys B=some (.bool,[])) (hE:Z0o tys E=some (e,fl)) :
  ∃ z,SlT P S E I B (size e) z/\∃ i:TypeInfo,P.info? E=some i/\i.size=size e/\i.zero=some z/\i.bytes<=65536:=by
 obtain ⟨i,z,hi,hs,hb,_,hz,hzc,_⟩:=(hT E e fl hE).info
 obtain ⟨iS,zS,hiS,hsS,_,_,hzS,hzcS,hshS⟩:=(hT S _ _ hS).info
 have hzS2:zS= .slice none 0 0:=by
  have h1:one zS=true:=hshS
  have h2:=Z8P h1
  have h3:zS.cells.toList=[.slice none 0 0]:=hzcS
  cases zS<;>simp_all [Value.oneCell',Value.cells]
 refine ⟨z,⟨hm,hu,λw=>Z6M hT hS w,λw=>jcu hT hS w,λw=> ?_,((hT I _ _ hI).und rfl).1 _ rfl,λw=>Z6M hT hI w,λw=>jcu hT hI w,((hT B _ _ hB).und rfl).2.1 rfl,λw=>Z6M hT hB w,λw=>jcu hT hB w,λw=>jcu hT hE w,λw=> ?_,⟨i,hi,hs⟩,?_,λc hc=> ?_⟩,i,hi,hs,hz,hb⟩
 ·simp [zeroValue,typeInfo,hiS,hzS,hzS2]
 ·simp [zeroValue,typeInfo,hi,hz]
 ·rw [<-Array.length_toList,hzc,(Z2Z (w:=default) (F:=λ_=>0) (St:=λ_=>True) (Al:=λ_=>True) e).len.1]
 ·rw [hzc] at hc
  exact jce e c hc
def jro:Ty->Bool
 | .int .u8=>false
 | _=>true
theorem jqX {e:Ty} (h:jro e=true):e≠ .int .u8:=λhh=>by subst hh;cases h
theorem gS {a b:Sig Unit} {f:FuncId} (s:Z17 P f a) (h:a=b):Z17 P f b:=h ▸ s
theorem jjL (hm:P.follows .mixedOrders=true) (hT:Z0e P tys) (hS:Z0o tys S=some (.slice e,[])) (hu:P.underlying S=some (.slice E)) (hI:Z0o tys I=some (.int .i64,[])) (hB:Z0o tys B=some (.bool,[])) (hE:Z0o tys E=some (e,fl))
  {f : FuncId} {fn : Func} (hf : P.funcs[f]? = some fn) (hb : fn.body = some (jcA S I B U)) (hn : fn.ntmps = 33) (hr : fn.results = #[.tmp 6]) (hname : (fn.name == "runtime.NumGoroutine") = false) : Z17 P f (jpO e) := by
 obtain ⟨z,L,_⟩:=jks hm hT hS hu hI hB hE
 exact jpP L hf hb hn hr hname
theorem jnB (hm:P.follows .mixedOrders=true) (hT:Z0e P tys) (hS:Z0o tys S=some (.slice e,[])) (hu:P.underlying S=some (.slice E)) (hI:Z0o tys I=some (.int .i64,[])) (hB:Z0o tys B=some (.bool,[])) (hE:Z0o tys E=some (e,fl)) (hk:Nat.ble 1 (size e)=true) (he:jro e=true)
  {f fo fr : FuncId} {fn fno : Func} (hf : P.funcs[f]? = some fn) (hb : fn.body = some (j9B S I B U fo fr)) (hn : fn.ntmps = 95) (hr : fn.results = #[.tmp 6]) (hname : (fn.name == "runtime.NumGoroutine") = false)
  (hfo : P.funcs[fo]? = some fno) (hno : (fno.name == "runtime.NumGoroutine") = false) (hbo : fno.body.isNone = true) (hxo : Extern.findNext fno = none) (heo : Extern.find fno = some (Extern.SlicesOverlaps.overlaps #[S, S] #[B])) : Z17 P f (jjS e) := by
 obtain ⟨z,L,hE2⟩:=jks hm hT hS hu hI hB hE
 exact jpY L hE2 (Nat.le_of_ble_eq_true hk) (jqX he) hf hb hn hr hname hfo hno hbo hxo heo
theorem jrT {ag:Bool} {τ:Ty} {tg:List Tag} (hm:P.follows .mixedOrders=true) (hT:Z0e P tys) (hS:Z0o tys S=some (.slice e,[])) (hu:P.underlying S=some (.slice E)) (hI:Z0o tys I=some (.int .i64,[])) (hB:Z0o tys B=some (.bool,[])) (hE:Z0o tys E=some (e,fl)) (hag:ag= !fl.isEmpty) (aT:∀ w,(isAgg T).run P w= .ok false w) (zT:∀ w,(sizeOf T).run P w= .ok 1 w)
  (hk1:Nat.ble 1 (size e)=true) (hk2:(ag||Nat.beq (size e) 1)=true) (htg:tg.all (λt=> !t.isN)=true)
  {fx : FuncId} {fnx : Func} (hfx : P.funcs[fx]? = some fnx) (hbx : fnx.body = some (j6w S E I B U T)) (hnx : fnx.ntmps = 19) (hrx : fnx.results = #[.tmp 4]) (hnamex : (fnx.name == "runtime.NumGoroutine") = false)
  {g:FuncId} {gs:Sig Unit} (hg:Z17 P g gs) (hgm:gs.modes=[.look e ag,.rptr τ])
  {f : FuncId} {fn : Func} (hf : P.funcs[f]? = some fn) (hb : fn.body = some (jfb S E I B U T fx)) (hn : fn.ntmps = 42) (hr : fn.results = #[.tmp 4]) (hname : (fn.name == "runtime.NumGoroutine") = false) : Z17 P f (jn1 e g ag τ tg gs) := by
 obtain ⟨z,L,_⟩:=jks hm hT hS hu hI hB hE
 exact jqF L hT hE hag (λw=>by rw [hag];exact Z6M hT hE w) aT zT hk1 hk2 htg hfx hbx hnx hrx hnamex hg hgm hf hb hn hr hname
theorem jrK {ag:Bool} {τ:Ty} {tg:List Tag} (hm:P.follows .mixedOrders=true) (hT:Z0e P tys) (hS:Z0o tys S=some (.slice e,[])) (hu:P.underlying S=some (.slice E)) (hI:Z0o tys I=some (.int .i64,[])) (hB:Z0o tys B=some (.bool,[])) (hE:Z0o tys E=some (e,fl)) (hag:ag= !fl.isEmpty) (aT:∀ w,(isAgg T).run P w= .ok false w) (zT:∀ w,(sizeOf T).run P w= .ok 1 w)
  (hk1:Nat.ble 1 (size e)=true) (hk2:(ag||Nat.beq (size e) 1)=true) (htg:tg.all (λt=> !t.isN)=true)
  {fx : FuncId} {fnx : Func} (hfx : P.funcs[fx]? = some fnx) (hbx : fnx.body = some (j6w S E I B U T)) (hnx : fnx.ntmps = 19) (hrx : fnx.results = #[.tmp 4]) (hnamex : (fnx.name == "runtime.NumGoroutine") = false)
  {g:FuncId} {gs:Sig Unit} (hg:Z17 P g gs) (hgm:gs.modes=[.look e ag,.rptr τ])
  {f : FuncId} {fn : Func} (hf : P.funcs[f]? = some fn) (hb : fn.body = some (jcB S E I B U T fx)) (hn : fn.ntmps = 42) (hr : fn.results = #[.tmp 4]) (hname : (fn.name == "runtime.NumGoroutine") = false) : Z17 P f (jn1 e g ag τ tg gs) := by
 obtain ⟨z,L,_⟩:=jks hm hT hS hu hI hB hE
 exact jpQ L hT hE hag (λw=>by rw [hag];exact Z6M hT hE w) aT zT hk1 hk2 htg hfx hbx hnx hrx hnamex hg hgm hf hb hn hr hname
end
end Go.PI
namespace Go.PI
noncomputable section
abbrev AR:=Ty×Option (List Tag)
@[reducible] def ArT:List AR->Type
 | []=>Unit
 | a::l=>El a.1×ArT l
@[reducible] def ExT:List (Ty×List Tag)->Type
 | []=>Unit
 | a::l=>(Bool×El a.1)×ExT l
section
variable {R:Type} {r:R}
def rdA:(l:List AR)->List TVal->(ArT l->Option R)->Option R
 | [],vals,f=>nl vals (f ())
 | (τ,none)::l,vals,f=>av vals τ λx vals=>rdA l vals λy=>f (x,y)
 | (τ,some tg)::l,vals,f=>ao vals τ tg λx vals=>rdA l vals λy=>f (x,y)
def mkA:(l:List AR)->ArT l->(Nat->Bool×List Tag)->List TVal
 | [],_,_=>[]
 | (τ,none)::l,x,fl=>⟨τ,(fl 0).1,x.1,(fl 0).2⟩::mkA l x.2 λn=>fl (n+1)
 | (τ,some tg)::l,x,fl=>⟨τ,(fl 0).1,x.1,tg⟩::mkA l x.2 λn=>fl (n+1)
def jr2:(l:List (Ty×List Tag))->List TVal->(ExT l->Option R)->Option R
 | [],vals,f=>nl vals (f ())
 | (τ,tg)::l,vals,f=>ab vals τ tg λa x vals=>jr2 l vals λy=>f ((a,x),y)
def mkX:(l:List (Ty×List Tag))->ExT l->List TVal
 | [],_=>[]
 | (τ,tg)::l,x=>⟨τ,x.1.1,x.1.2,tg⟩::mkX l x.2
theorem jju:(l:List AR)->{vals:List TVal}->{f:ArT l->Option R}->rdA l vals f=some r->∃ x fl,vals=mkA l x fl/\f x=some r
 | [],vals,f,h=>by
  obtain ⟨e,h⟩:=Zaw h
  exact ⟨(),λ_=>(false,[]),e,h⟩
 | (τ,none)::l,vals,f,h=>by
  obtain ⟨x,a,t,l',e,h⟩:=Zap h
  obtain ⟨y,fl,b,h⟩:=jju l h
  exact ⟨(x,y),λn=>Nat.casesOn n (a,t) fl,by rw [e,b];rfl,h⟩
 | (τ,some tg)::l,vals,f,h=>by
  obtain ⟨a,x,l',e,h⟩:=Zao h
  obtain ⟨y,fl,b,h⟩:=jju l h
  exact ⟨(x,y),λn=>Nat.casesOn n (a,[]) fl,by rw [e,b];rfl,h⟩
theorem jlW:(l:List (Ty×List Tag))->{vals:List TVal}->{f:ExT l->Option R}->jr2 l vals f=some r->∃ x,vals=mkX l x/\f x=some r
 | [],vals,f,h=>by
  obtain ⟨e,h⟩:=Zaw h
  exact ⟨(),e,h⟩
 | (τ,tg)::l,vals,f,h=>by
  obtain ⟨a,x,l',e,h⟩:=Zan h
  obtain ⟨y,b,h⟩:=jlW l h
  exact ⟨((a,x),y),by rw [e,b];rfl,h⟩
def sg (modes:List Mode) (ags:List Bool) (l:List AR) (m:List (Ty×List Tag)) (f:ArT l->ExT m->(List TVal->List TVal->List TVal->Option R)->Option R):Sig R:=
 ⟨modes,ags,λvals ext k=>rdA l vals λx=>jr2 m ext λy=>f x y k⟩
end
inductive RS where
 | v (i:Nat) (τ:Ty) (ag:Bool) (tg:List Tag)
 | u (i:Nat) (τ:Ty) (ag:Bool) (tg:List Tag) (ags:List Bool)
 | e (i:Nat) (τ:Ty) (ag:Bool) (tg:List Tag) (t:Tag)
 | c (i:Nat) (f:FuncId) (τs:List Ty) (τ:Ty) (tg:List Tag)
 | t (i:Nat) (p:TV)
abbrev RS.I (i:Nat):RS:= .v i (.int .i64) false []
abbrev RS.B (i:Nat):RS:= .v i .bool false []
abbrev RS.S (i:Nat):RS:= .v i .str false []
abbrev RS.R (i:Nat) (τ:Ty) (t:Tag):RS:= .v i τ false [t]
@[reducible] def RsT:List RS->Type
 | []=>Unit
 | .v _ τ _ _::l=>El τ×RsT l
 | .u _ τ _ _ _::l=>El τ×RsT l
 | .e _ τ _ _ _::l=>El τ×RsT l
 | .c _ _ _ τ _::l=>El τ×RsT l
 | .t _ _::l=>RsT l
abbrev BX:=Nat×Ty×List Tag
@[reducible] def BxT:List BX->Type
 | []=>Unit
 | a::l=>(Bool×El a.2.1)×BxT l
section
variable {R:Type} {r:R}
def rdR (σ:State):(l:List RS)->(RsT l->Option R)->Option R
 | [],f=>f ()
 | .v i τ ag tg::l,f=>rdV σ i τ ag tg λx=>rdR σ l λy=>f (x,y)
 | .u i τ ag tg ags::l,f=>rdU σ i τ ag tg ags λx=>rdR σ l λy=>f (x,y)
 | .e i τ ag tg t::l,f=>rdE σ i τ ag tg t λx=>rdR σ l λy=>f (x,y)
 | .c i g b τ tg::l,f=>rdC σ i g b τ tg λx=>rdR σ l λy=>f (x,y)
 | .t i p::l,f=>rdT σ i p (rdR σ l f)
def slR:(l:List RS)->RsT l->List (Nat×TV)
 | [],_=>[]
 | .v i τ ag tg::l,x=>(i,.val ⟨τ,ag,x.1,tg⟩)::slR l x.2
 | .u i τ ag tg ags::l,x=>(i,.tup ⟨τ,ag,x.1,tg⟩ ags)::slR l x.2
 | .e i τ ag tg t::l,x=>(i,.eptr ⟨τ,ag,x.1,tg⟩ t)::slR l x.2
 | .c i g b τ tg::l,x=>(i,.sclos g b ⟨τ,false,x.1,tg⟩)::slR l x.2
 | .t i p::l,x=>(i,p)::slR l x
def ixR:List RS->List Nat
 | []=>[]
 | .v i _ _ _::l=>i::ixR l
 | .u i _ _ _ _::l=>i::ixR l
 | .e i _ _ _ _::l=>i::ixR l
 | .c i _ _ _ _::l=>i::ixR l
 | .t i _::l=>i::ixR l
def jr1 (σ:State):(l:List BX)->(BxT l->Option R)->Option R
 | [],f=>f ()
 | (i,τ,tg)::l,f=>rdB σ i τ tg λa x=>jr1 σ l λy=>f ((a,x),y)
def bxR:(l:List BX)->BxT l->List (Nat×TVal)
 | [],_=>[]
 | (i,τ,tg)::l,x=>(i,⟨τ,x.1.1,x.1.2,tg⟩)::bxR l x.2
theorem jb7 {σ:State}:(l:List RS)->{f:RsT l->Option R}->rdR σ l f=some r->∃ x,Z4c σ (slR l x)/\f x=some r
 | [],f,h=>⟨(),trivial,h⟩
 | .v i τ ag tg::l,f,h=>by
  obtain ⟨x,e,h⟩:=Zaf h
  obtain ⟨y,b,h⟩:=jb7 l h
  exact ⟨(x,y),⟨e,b⟩,h⟩
 | .u i τ ag tg ags::l,f,h=>by
  obtain ⟨x,e,h⟩:=Zae h
  obtain ⟨y,b,h⟩:=jb7 l h
  exact ⟨(x,y),⟨e,b⟩,h⟩
 | .e i τ ag tg t::l,f,h=>by
  obtain ⟨x,e,h⟩:=Zab h
  obtain ⟨y,b,h⟩:=jb7 l h
  exact ⟨(x,y),⟨e,b⟩,h⟩
 | .c i g d τ tg::l,f,h=>by
  obtain ⟨x,e,h⟩:=Zaa h
  obtain ⟨y,b,h⟩:=jb7 l h
  exact ⟨(x,y),⟨e,b⟩,h⟩
 | .t i p::l,f,h=>by
  obtain ⟨e,h⟩:=Zad h
  obtain ⟨y,b,h⟩:=jb7 l h
  exact ⟨y,⟨e,b⟩,h⟩
theorem jlV {σ:State}:(l:List BX)->{f:BxT l->Option R}->jr1 σ l f=some r->∃ x,Z4b σ (bxR l x)/\f x=some r
 | [],f,h=>⟨(),trivial,h⟩
 | (i,τ,tg)::l,f,h=>by
  obtain ⟨a,x,e,h⟩:=Za9 h
  obtain ⟨y,b,h⟩:=jlV l h
  exact ⟨((a,x),y),⟨e,b⟩,h⟩
abbrev Kx (R:Type):=Ex->List (Nat×TV)->List (Nat×TVal)->Option R
abbrev kx (n m:Nat) (k:Z83 R):Kx R:=λe d b=>k e (mkS n m d b)
def Nd (n m:Nat) (l:List RS) (b:List BX) (f:RsT l->BxT b->Kx R->Option R):Z1d R:=λσ k=>rdN σ n (rdR σ l λx=>jr1 σ b λy=>f x y (kx n m k))
theorem joM {n m:Nat} {l:List RS} {b:List BX} {f:RsT l->BxT b->Kx R->Option R} {σ:State} {k:Z83 R} (h:Nd n m l b f σ k=some r):∃ x y,Z2F (mkS n m (slR l x) (bxR b y)) σ/\f x y (kx n m k)=some r:=by
 obtain ⟨g,h⟩:=Zac h
 obtain ⟨x,e,h⟩:=jb7 l h
 obtain ⟨y,d,h⟩:=jlV b h
 exact ⟨x,y,ZaM g e d,h⟩
def NdL {V K:Type} (n m:Nat) (l:List RS) (b:List BX) (d:RsT l->BxT b->V) (w:RsT l->V->RsT l) (w2:BxT b->V->BxT b) (step:RsT l->BxT b->V->(V->Option R)->K->Option R) (E:RsT l->BxT b->Kx R->K):Z1d R:=
 Nd n m l b λx y k=>Z1f (step x y) Z1c (d x y) (E x y k)
variable {P:Program} {np:Nat} {X:List (Z1d R)} {ty:List (TypeId×Ty×List TypeId)} {fs:List (FuncId×Sig R)} [Subsingleton R]
theorem fnD (w:P.follows .mixedOrders=true) (n:Z0e P ty) (j:Fns P fs) {f:FuncId} {fn:Func} (X:List (Z1d R)) {ht:HT} (i:Z20 P np X ht (bo fn)) (fz:Bool) (q:P.funcs[f]? = some fn)
  {modes:List Mode} {ags:List Bool} {l:List AR} {m:List (Ty×List Tag)} {F:ArT l->ExT m->(List TVal->List TVal->List TVal->Option R)->Option R}
  (h:∀ x fl y k,Z8k ⟨ty,fs,np⟩ X ht fz fn modes ags (mkA l x fl) (mkX m y) k=F x y k)
  (b : (fn.name == "runtime.NumGoroutine") = false := by kernel_rfl) (p : fn.body = some (bo fn) := by kernel_rfl) (z : Nat.ble modes.length fn.ntmps = true := by kernel_rfl) : Z17 P f (sg modes ags l m F) :=
 jn2 w n j X i fz q (λvals ext k B A=>by
  obtain ⟨x,fl,rfl,d⟩:=jju l A
  obtain ⟨y,rfl,g⟩:=jlW m d
  exact (h x fl y k).trans g) b p z
theorem nD (C:P.follows .mixedOrders=true) (B:Z0e P ty) (A:Fns P fs) {j:Base} {M:Nat->Prop} (g:j.np<=np) (X:List (Z1d R)) {c:Code} {ht:HT} (z:Z20 P np X ht c)
  (p:List Nat×List Nat) (w:List (Nat×List Nat×List Nat)) (q:List Nat×List Nat) {n m:Nat} {l:List RS} {b:List BX} {f:RsT l->BxT b->Kx R->Option R}
  (h:∀ x y k,Z0S ⟨ty,fs,np⟩ X ht c (mkS n m (slR l x) (bxR b y)) (λe σ=>k e (Z9E p w q e σ))=f x y (kx n m k)):Z14 P j M c (Nd n m l b f):=
 jpi C B A g X z p w q λσ k D i=>by
  obtain ⟨x,y,d,i⟩:=joM i
  exact ⟨_,d,(h x y k).trans i⟩
theorem lD {V K:Type} (H:P.follows .mixedOrders=true) (F:Z0e P ty) (D:Fns P fs) {j:Base} {M:Nat->Prop} (g:j.np<=np) (X:List (Z1d R)) {c:Code} {ht:HT} (C:Z20 P np X ht c.pl)
  (p:List Nat×List Nat) (z:List (Nat×List Nat×List Nat)) (q:List Nat×List Nat) {n m:Nat} {l:List RS} {b:List BX} {d:RsT l->BxT b->V} {step:RsT l->BxT b->V->(V->Option R)->K->Option R} {E:RsT l->BxT b->Kx R->K}
  {w:RsT l->V->RsT l} {w2:BxT b->V->BxT b}
  (h:∀ x y v (rec:State->Option R) (k:Z83 R),Z0S ⟨ty,fs,np⟩ X ht c.pl (mkS n m (slR l (w x v)) (bxR b (w2 y v))) (λe σ=>match e with | .normal=>rec (σ.forget (ixR l) (b.map Prod.fst)) | e=>k e (Z9E p z q e σ)) =
   step x y v (λv=>rec (mkS n m (slR l (w x v)) (bxR b (w2 y v)))) (E x y (kx n m k)))
  (A:∀ x y,w x (d x y)=x:=by exact λ_ _=>rfl) (B:∀ x y,w2 y (d x y)=y:=by exact λ_ _=>rfl) (G:c= .loop c.pl:=by kernel_rfl):Z14 P j M c (NdL n m l b d w w2 step E):=
 jjW H F D g X C (ixR l) (b.map Prod.fst) p z q (λσ k I i=>by
  obtain ⟨x,y,f,i⟩:=joM i
  refine ⟨_,f,?_⟩
  have:=Z9u (λv=>mkS n m (slR l (w x v)) (bxR b (w2 y v))) (step x y) (λk=>E x y (kx n m k)) (λv rec k=>h x y v rec k) Z1c (d x y) k
  rw [A,B] at this
  exact this.trans i) G
end
end
end Go.PI
set_option maxRecDepth 100000
namespace Go.PI.G
open Go Go.PI Go.Proofs
open Go.Code (pl pr)
abbrev qV:=Int×Int×ByteArray
abbrev qW:=List qV
abbrev qC:=ByteArray×Int×Bool×Bool×Int×Int×ByteArray
abbrev qE:=List qC
abbrev qT:=ByteArray×qE×List ByteArray
abbrev qF:=List qT
abbrev qR:=List qW
abbrev qX:=List qR
abbrev qD:=qF×List qR
abbrev qB:=ByteArray
abbrev qL:=List ByteArray
abbrev qS:=Int×ByteArray×qW×qW×Int×ByteArray×qE×List ByteArray×ByteArray×ByteArray
abbrev qG:=Int×ByteArray×qE×List ByteArray×ByteArray×ByteArray
abbrev qP:=Int×Int×qS
abbrev qQ:=Int×qP×Int×Int×Int
abbrev qU:=List qS
abbrev y0:Ty:= .slice .str
abbrev y1:Ty:= .pair tI .str
abbrev y2:Ty:= .pair tI y1
abbrev y3:Ty:= .slice y2
abbrev y4:Ty:= .pair .bool y2
abbrev y5:Ty:= .pair .bool y4
abbrev y6:Ty:= .pair tI y5
abbrev y7:Ty:= .pair .str y6
abbrev y8:Ty:= .slice y7
abbrev y9:Ty:= .pair .str .str
abbrev y10:Ty:= .pair y0 y9
abbrev y11:Ty:= .pair y8 y10
abbrev y12:Ty:= .pair .str y11
abbrev y13:Ty:= .pair tI y12
abbrev y14:Ty:= .pair y3 y13
abbrev y15:Ty:= .pair y3 y14
abbrev y16:Ty:= .pair .str y15
abbrev y17:Ty:= .pair tI y16
abbrev y18:Ty:= .pair tI y17
abbrev y19:Ty:= .pair tI y18
abbrev y20:Ty:= .slice y19
abbrev y21:Ty:= .slice tI
abbrev y22:Ty:= .pair .str tI
abbrev y23:Ty:= .slice y22
abbrev y24:Ty:= .pair y3 .bool
abbrev y25:Ty:= .pair tI y24
abbrev y26:Ty:= .slice y25
abbrev y27:Ty:= .slice y17
abbrev y28:Ty:= .pair y8 y0
abbrev y29:Ty:= .pair .str y28
abbrev y30:Ty:= .slice y29
abbrev y31:Ty:= .slice y3
abbrev y32:Ty:= .slice y31
abbrev y33:Ty:= .pair y30 y32
abbrev y34:Ty:= .slice y33
abbrev y35:Ty:= .slice (.int .u8)
def z__:qB:=⟨#[45]⟩
abbrev y36:Ty:= .pair y29 y3
def jeo:qB:=⟨#[32]⟩
def jn3:qB:=⟨#[10]⟩
def tys:List (TypeId×Ty×List TypeId):=[(3,tI,[]),(4,.bool,[]),(5,(.int .u8),[]),(9,.str,[]),(22,y0,[]),(42,y20,[]),(45,y20,[]),(49,y3,[]),(52,y3,[]),(56,y21,[]),(61,y3,[52]),(68,y23,[]),(71,y23,[]),(75,y26,[]),(88,y27,[]),(91,y30,[]),(93,y30,[91]),(94,y32,[]),(96,y33,[93,94]),(105,y3,[49]),(106,y8,[]),(108,y13,[3,9,106,22,9,9]),(110,y17,[3,9,49,105,108]),(112,y19,[3,3,110]),(116,y8,[]),(118,y13,[3,9,116,22,9,9]),(120,y17,[3,9,52,61,118]),(122,y19,[3,3,120]),(148,y2,[3,3,9]),(150,y25,[3,61,4]),(151,y2,[3,3,9]),(162,y29,[9,116,22]),(163,y31,[]),(165,y31,[163]),(170,y22,[9,3]),(172,y22,[9,3]),(175,y34,[]),(211,y35,[]),(213,y7,[9,3,4,4,151]),(291,y7,[9,3,4,4,148])]
theorem follows:Tryz.prog.follows .mixedOrders=true:=by kernel_rfl
theorem j1D:Z0e Tryz.prog tys:=ZaD (by kernel_rfl)
abbrev SO (f:Nat) (s:Sig Unit):Prop:=Z17 Tryz.prog f s
abbrev FS (l:List (FuncId×Sig Unit)):Prop:=Fns Tryz.prog l
def CN (np n:Nat) (f:Func) (x:Z1d Unit):Prop:=∀ {b:Base} {M:Nat->Prop},b.np<=np->Z14 Tryz.prog b M (cAt n (bo f)) x
theorem fK {np : Nat} {d : List (FuncId × Sig Unit)} (i : FS d) {f : FuncId} {fn : Func} (X : List (Z1d Unit)) {ht : HT} (g : Z20 Tryz.prog np X ht (bo fn)) (fz : Bool) (n : Tryz.prog.funcs[f]? = some fn) {modes : List Mode} {ags : List Bool} {l : List AR} {m : List (Ty × List Tag)} {F : ArT l → ExT m → (List TVal → List TVal → List TVal → Res) → Res} (h : ∀ x fl y k, Z8k ⟨tys, d, np⟩ X ht fz fn modes ags (mkA l x fl) (mkX m y) k = F x y k) (b : (fn.name == "runtime.NumGoroutine") = false := by kernel_rfl) (j : fn.body = some (bo fn) := by kernel_rfl) (p : Nat.ble modes.length fn.ntmps = true := by kernel_rfl) : SO f (sg modes ags l m F) := fnD follows j1D i X g fz n h b j p
theorem nK {np j:Nat} {f:Func} {g:List (FuncId×Sig Unit)} (w:FS g) (X:List (Z1d Unit)) {ht:HT} (r:Z20 Tryz.prog np X ht (cAt j (bo f))) (i:List Nat×List Nat) (q:List (Nat×List Nat×List Nat)) (p:List Nat×List Nat) {n m:Nat} {l:List RS} {b:List BX} {F:RsT l->BxT b->Kx Unit->Res} (h:∀ x y k,Z0S ⟨tys,g,np⟩ X ht (cAt j (bo f)) (mkS n m (slR l x) (bxR b y)) (λe σ=>k e (Z9E i q p e σ))=F x y (kx n m k)):CN np j f (Nd n m l b F):=λd=>nD follows j1D w d X r i q p h
theorem lK {V K:Type} {np j:Nat} {f:Func} {i:List (FuncId×Sig Unit)} (C:FS i) (X:List (Z1d Unit)) {ht:HT} (B:Z20 Tryz.prog np X ht (cAt j (bo f)).pl) (p:List Nat×List Nat) (r:List (Nat×List Nat×List Nat)) (q:List Nat×List Nat) {n m:Nat} {l:List RS} {b:List BX} {g:RsT l->BxT b->V} {step:RsT l->BxT b->V->(V->Res)->K->Res} {E:RsT l->BxT b->Kx Unit->K} {w:RsT l->V->RsT l} {w2:BxT b->V->BxT b} (h:∀ x y v (rec:State->Res) (k:Z83 Unit),Z0S ⟨tys,i,np⟩ X ht (cAt j (bo f)).pl (mkS n m (slR l (w x v)) (bxR b (w2 y v))) (λe σ=>match e with | .normal=>rec (σ.forget (ixR l) (b.map Prod.fst)) | e=>k e (Z9E p r q e σ))=step x y v (λv=>rec (mkS n m (slR l (w x v)) (bxR b (w2 y v)))) (E x y (kx n m k))) (z:∀ x y,w x (g x y)=x:=by exact λ_ _=>rfl) (A:∀ x y,w2 y (g x y)=y:=by exact λ_ _=>rfl) (D:cAt j (bo f)= .loop (cAt j (bo f)).pl:=by kernel_rfl):CN np j f (NdL n m l b g w w2 step E):=λd=>lD follows j1D C d X B p r q h z A D
end Go.PI.G
namespace Go.PI.G
noncomputable section
open Go Go.PI Go.Proofs
open Go.Code (pl pr)
def j3S (s:qB) (i:Int) (rec:Int->Res) (d:Unit->Res) (b:Unit->Res):Res:=bif decide (i<(nI (ByteArray.size s))) then bif inb i (ByteArray.size s) then bif decide ((bt s i)<97) then b () else bif inb i (ByteArray.size s) then bif decide ((bt s i)>122) then b () else rec (Z9K (i+1)) else none else none else d ()
def j9a (s:qB):Int->(Int->Res)->((Unit->Res)×(Unit->Res))->Res:=λv rec q=>j3S s v (λi=>rec (i)) q.1 q.2
def jfx (s:qB) (n:Nat) (i:Int) (b:Unit->Res) (d:Unit->Res):Res:=Z1f (j9a s) n (i) (b,d)
def jei:Z1d Unit:=NdL 28 28 [.S 0,.I 3] [] (λb d=>(b.2.1)) (λb v=>(b.1,v,())) (λd v=>()) (λb d=>j9a b.1) λb d f=>((λ_=>f (.exit 0) [(0,vS b.1)] []),(λ_=>f .ret [(2,vB false)] []))
theorem jkg:CN 0 26 Tryz.f154 jei:=lK Zas [] oN ([],[]) [(0,[0],[])] ([2],[]) λ_ _ _ _ _=>by kernel_rfl
def j0m (s:qB) (b:Bool->Res):Res:=jfx s Z1c 0 (λ_=>bif decide ((nI (ByteArray.size s))>=1) then b (decide ((nI (ByteArray.size s))<=8)) else b false) (λ_=>b false)
def j1e:Sig Unit:=sg [.look .str false] [false] [(.str,none)] [] λd f k=>j0m d.1 (λb=>k [wB b] [] [])
theorem j6s:SO 154 j1e:=fK (np:=0) Zas [jei] (oI 26 0 @jkg oN) false Tryz.func154 λ_ _ _ _=>by kernel_rfl
def j8J (d:Int) (b:Bool->Res):Res:=bif decide (d>=(-1099511627775)) then b (decide (d<=1099511627775)) else b false
def jgO:Sig Unit:=sg [.look tI false] [false] [(tI,none)] [] λd f k=>j8J d.1 (λb=>k [wB b] [] [])
theorem jgv:SO 180 jgO:=fK (np:=0) Zas [] oN false Tryz.func180 λ_ _ _ _=>by kernel_rfl
def j1g (b:Int×Int×qB) (d:Bool->Res):Res:=bif (b.1==0) then bif (b.2.1==0) then d (sEq b.2.2 eS) else d false else bif (b.1==1) then bif (b.2.1==0) then d (sEq b.2.2 eS) else bif (b.2.1==1) then d (sEq b.2.2 eS) else d false else bif (b.1==2) then j8J b.2.1 λr=>bif r then d (sEq b.2.2 eS) else d false else bif (b.1==3) then bif (b.2.1==0) then d (decide ((nI (ByteArray.size b.2.2))<=30)) else d false else d false
def jad:Sig Unit:=sg [.look y2 true] [false] [(y2,none)] [] λd f k=>j1g d.1 (λb=>k [wB b] [] [])
theorem j7g:SO 266 jad:=fK (np:=0) (Za6 jgv Zas) [] oN false Tryz.func266 λ_ _ _ _=>by kernel_rfl
def j7D (a:Int×Int×qB) (b:Int×Int×qB) (d:Bool->Res):Res:=j1g a λr=>bif !r then d false else j1g b λf=>bif !f then d false else bif (a.1 != b.1) then d (decide (a.1<b.1)) else bif decide (a.2.1<b.2.1) then d true else bif (a.2.1==b.2.1) then d (sLt a.2.2 b.2.2) else d false
def jlt:Sig Unit:=sg [.look y2 true,.look y2 true] [false] [(y2,none),(y2,none)] [] λb f k=>j7D b.1 b.2.1 (λd=>k [wB d] [] [])
theorem jf3:SO 282 jlt:=fK (np:=0) (Za6 j7g Zas) [] oN false Tryz.func282 λ_ _ _ _=>by delta j7D jad;refine gz j1g λ_ b=> ?_;rewrite [<-b];kernel_rfl
def j09 (x:Int) (f:Int) (d:Int) (b:Bool->Res):Res:=bif decide (x>=f) then b (decide (x<=d)) else b false
def j0A:Sig Unit:=sg [.look tI false,.look tI false,.look tI false] [false] [(tI,none),(tI,none),(tI,none)] [] λb f k=>j09 b.1 b.2.1 b.2.2.1 (λd=>k [wB d] [] [])
theorem j1b:SO 163 j0A:=fK (np:=0) Zas [] oN false Tryz.func163 λ_ _ _ _=>by kernel_rfl
def j3x (s:qB) (i:Int) (rec:Int->Res) (d:Unit->Res) (b:Unit->Res):Res:=bif decide (i<(nI (ByteArray.size s))) then bif inb i (ByteArray.size s) then bif decide ((bt s i)<97) then b () else bif inb i (ByteArray.size s) then bif decide ((bt s i)>122) then b () else rec (Z9K (i+1)) else none else none else d ()
def j66 (s:qB):Int->(Int->Res)->((Unit->Res)×(Unit->Res))->Res:=λv rec q=>j3x s v (λi=>rec (i)) q.1 q.2
def jaZ (s:qB) (n:Nat) (i:Int) (b:Unit->Res) (d:Unit->Res):Res:=Z1f (j66 s) n (i) (b,d)
def jay:Z1d Unit:=NdL 23 23 [.S 0,.I 3] [] (λb d=>(b.2.1)) (λb v=>(b.1,v,())) (λd v=>()) (λb d=>j66 b.1) λb d f=>((λ_=>f (.exit 0) [(0,vS b.1)] []),(λ_=>f .ret [(2,vB false)] []))
theorem jk1:CN 0 26 Tryz.f160 jay:=lK (Za6 j1b Zas) [] oN ([],[]) [(0,[0],[])] ([2],[]) λ_ _ _ _ _=>by kernel_rfl
def j0h (s:qB) (b:Bool->Res):Res:=jaZ s Z1c 0 (λ_=>j09 (nI (ByteArray.size s)) 1 8 λr=>b r) (λ_=>b false)
def j1c:Sig Unit:=sg [.look .str false] [false] [(.str,none)] [] λd f k=>j0h d.1 (λb=>k [wB b] [] [])
theorem j6r:SO 160 j1c:=fK (np:=0) (Za6 j1b Zas) [jay] (oI 26 0 @jk1 oN) false Tryz.func160 λ_ _ _ _=>by delta j0h jay j0A jaZ;refine gz j66 λ_ b=>gz j09 λ_ d=> ?_;rewrite [<-b,<-d];kernel_rfl
def j0X (b:Int×Int×qB) (d:Bool->Res):Res:=bif (b.1==0) then d ((b.1==0)&&((b.2.1==0)&&(sEq b.2.2 eS))) else bif (b.1==1) then j09 b.2.1 0 1 λr=>bif r then d (sEq b.2.2 eS) else d false else bif (b.1==2) then j09 b.2.1 (-1099511627775) 1099511627775 λf=>bif f then d (sEq b.2.2 eS) else d false else bif (b.1==3) then bif (b.2.1==0) then d (decide ((nI (ByteArray.size b.2.2))<=30)) else d false else d false
def j7t:Sig Unit:=sg [.look y2 true] [false] [(y2,none)] [] λd f k=>j0X d.1 (λb=>k [wB b] [] [])
theorem j7e:SO 273 j7t:=fK (np:=0) (Za6 j1b Zas) [] oN false Tryz.func273 λ_ _ _ _=>by delta j0X j0A;refine gz j09 λ_ b=> ?_;rewrite [<-b];kernel_rfl
def j7l (a:Int×Int×qB) (b:Int×Int×qB) (d:Bool->Res):Res:=j0X a λr=>bif !r then d false else j0X b λf=>bif !f then d false else bif (a.1 != b.1) then d (decide (a.1<b.1)) else bif (a.2.1 != b.2.1) then d (decide (a.2.1<b.2.1)) else d (sLt a.2.2 b.2.2)
def jls:Sig Unit:=sg [.look y2 true,.look y2 true] [false] [(y2,none),(y2,none)] [] λb f k=>j7l b.1 b.2.1 (λd=>k [wB d] [] [])
theorem jeT:SO 316 jls:=fK (np:=0) (Za6 j7e Zas) [] oN false Tryz.func316 λ_ _ _ _=>by delta j7l j7t;refine gz j0X λ_ b=> ?_;rewrite [<-b];kernel_rfl
def j24 (self:Int->(qB->Res)->Res):Sig Unit:=⟨[.look tI false],[false],λvals ext k=>av vals tI λb vals=>nl vals<|nl ext<|self b (λd=>k [wS d] [] [])⟩
def j0j (self:Int->(qB->Res)->Res) (b:Int) (d:qB->Res):Res:=j8J b λr=>bif !r then d eS else bif decide (b<0) then self (Z9K (0-b)) λf=>bif lim (1+(ByteArray.size f)) then d (z__++f) else none else bif decide (b<10) then d (Z3B [wu8 (Z9K (48+b))]) else Z87 (self (Z9K (Int.tdiv b 10)) λg=>bif lim ((ByteArray.size g)+(ByteArray.size (Z3B [wu8 (Z9K (48+(Int.tmod b 10)))]))) then d (g++(Z3B [wu8 (Z9K (48+(Int.tmod b 10)))])) else none) (self (Z9K (Int.tdiv b 10)) λh=>bif lim ((ByteArray.size h)+(ByteArray.size (Z3B [wu8 (Z9K (48+(Int.tmod b 10)))]))) then d (h++(Z3B [wu8 (Z9K (48+(Int.tmod b 10)))])) else none)
theorem jjB (self:Int->(qB->Res)->Res) (b:Z17 Tryz.prog 121 (j24 self)):Z17 Tryz.prog 121 (j24 (j0j self)):=jn2 (np:=0) follows j1D (Za6 b (Za6 jgv Zas)) [] oN false Tryz.func121 λ_ _ k _ h=>aV h λ_ _ _ _ _ h=>nL h λ_ h=>nL h λ_ h=>by subst_vars;exact .trans (by delta j0j jgO j24;refine gz j8J λ_ d=> ?_;rewrite [<-d];kernel_rfl) h
def j5Q:Int->(qB->Res)->Res:=Z9J (λ_ _=>none) j0j Z1c
theorem jkP:Z17 Tryz.prog 121 (j24 j5Q):=Z9f (C:=λt=>Z17 Tryz.prog 121 (j24 t)) (Z9N (c:=bo Tryz.f121) Tryz.func121 (by kernel_rfl) (by kernel_rfl) λ_ _ k _ h=>aV h λ_ _ _ _ _ h=>nL h λ_ h=>nL h λ_ h=>(by cases (show (none:Res)=some _ from h))) (λt h=>jjB t h) Z1c
def j0J (self:Int->(qB->Res)->Res):Sig Unit:=⟨[.look tI false],[false],λvals ext k=>av vals tI λb vals=>nl vals<|nl ext<|self b (λd=>k [wS d] [] [])⟩
theorem jeK (self:Int->(qB->Res)->Res) (b:Z17 Tryz.prog 124 (j0J self)):Fns Tryz.prog [(124,(j0J self)),(163,j0A)]:=(Za6 b (Za6 j1b Zas))
def j8d (self:Int->(qB->Res)->Res) (b:Int) (s:qB) (rec:Int->qB->Res) (d:Int->qB->Res):Res:=bif decide (b>9) then bif lim ((ByteArray.size (Z3B [wu8 (Z9K (48+(Int.tmod b 10)))]))+(ByteArray.size s)) then rec (Z9K (Int.tdiv b 10)) ((Z3B [wu8 (Z9K (48+(Int.tmod b 10)))])++s) else none else d b s
def j1H (self:Int->(qB->Res)->Res):(Int×qB)->(Int×qB->Res)->((Int->qB->Res))->Res:=λv rec q=>j8d self v.1 v.2 (λb s=>rec (b,s)) q
def j6U (self:Int->(qB->Res)->Res) (n:Nat) (d:Int) (s:qB) (b:Int->qB->Res):Res:=Z1f (j1H self) n (d,s) (b)
def j9k (self:Int->(qB->Res)->Res):Z1d Unit:=λσ k=>rdN σ 32<|rdI σ 0 λd=>rdS σ 3 λs=>j6U self Z1c d s (λb f=>k (.exit 0) (mkS 32 32 [(0,vI b),(3,vS f)] []))
theorem jiR (self:Int->(qB->Res)->Res) (b:Z17 Tryz.prog 124 (j0J self)):CN 0 124 Tryz.f124 (j9k self):=λd=>jjW follows j1D (jeK self b) d [] oN [0,3] [] ([],[]) [(0,[0,3],[])] ([],[]) λσ k _ h=>rN h λj h=>rV h λl g h=>rV h λs i h=>⟨_,ZaM (m:=32) j (sC g (sC i sN)) bN,.trans (Z9u (λv:Int×qB=>(mkS 32 32 [(0,vI v.1),(3,vS v.2)] [])) (j1H self) (λ(k:Z83 Unit)=>(((λf n=>k (.exit 0) (mkS 32 32 [(0,vI f),(3,vS n)] []))):(Int->qB->Res))) (λv rec k=>by kernel_rfl) Z1c (l,s) k) h⟩
def j0p (self:Int->(qB->Res)->Res) (d:Int) (f:qB->Res):Res:=j09 d (-1099511627775) 1099511627775 λr=>bif !r then f eS else bif decide (d<0) then self (Z9K (0-d)) λg=>bif lim (1+(ByteArray.size g)) then f (z__++g) else none else j6U self Z1c d eS λb s=>bif lim ((ByteArray.size (Z3B [wu8 (Z9K (48+b))]))+(ByteArray.size s)) then f ((Z3B [wu8 (Z9K (48+b))])++s) else none
theorem jjA (self:Int->(qB->Res)->Res) (b:Z17 Tryz.prog 124 (j0J self)):Z17 Tryz.prog 124 (j0J (j0p self)):=jn2 (np:=0) follows j1D (jeK self b) [(j9k self)] (oI 124 0 (λh=>jiR self b h) oN) false Tryz.func124 λ_ _ k _ h=>aV h λ_ _ _ _ _ h=>nL h λ_ h=>nL h λ_ h=>by subst_vars;exact .trans (by delta j0p j0A j9k j0J j6U;refine gz j09 λ_ d=>gz j1H λ_ f=> ?_;rewrite [<-d,<-f];kernel_rfl) h
def j5i:Int->(qB->Res)->Res:=Z9J (λ_ _=>none) j0p Z1c
theorem jkC:Z17 Tryz.prog 124 (j0J j5i):=Z9f (C:=λt=>Z17 Tryz.prog 124 (j0J t)) (Z9N (c:=bo Tryz.f124) Tryz.func124 (by kernel_rfl) (by kernel_rfl) λ_ _ k _ h=>aV h λ_ _ _ _ _ h=>nL h λ_ h=>nL h λ_ h=>(by cases (show (none:Res)=some _ from h))) (λt h=>jjA t h) Z1c
end
end Go.PI.G
