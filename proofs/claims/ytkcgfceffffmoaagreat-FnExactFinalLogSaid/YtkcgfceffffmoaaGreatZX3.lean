import Derived.Test.YtkcgfceffffmoaaGreatZX2
namespace Go.Proofs.YtkcgfceffffmoaaGreat.En
open Go Go.RowKit
section
variable {P:Program} {w0 w w':World} {W:Nat→Prop} {bt:Bt} {S:St} {a:Act}
theorem fM (hI:aH w0 W bt S w) (hE:ER w bt S a) (hfz:S.fz≤S.ng) {t ty el:TypeId} (hel:fC P t=some el) {bav xav v:AV} {bv xv:Value} (hb:VR w bt bav bv) (hx:VR w bt xav xv) {more:List (List T)} {S' S3:St} {fl:Bool}
  (hs:dJ S (P.cellsOf el) fl xav=some (more,S')) (h:c9 S' bav (P.cellsOf el) more=some (v,S3)) {p:ap} {s lo n:Nat} (hv:v= .own p s lo n) (hby:n*P.bytesOf el≤2 ^ 40) (hn:n≤2 ^ 40) (hpos:0 < P.cellsOf el) (hz: (h8 P el).isSome=true):
  ∃ u w' bt',(Builtin.append_ #[t,t] ty #[bv,xv]).run P w= .ok u w'∧bg w0 W bt S a bt' S3 w'∧VR w' bt' v u:=by
 obtain⟨zr,hz⟩:=Option.isSome_iff_exists.1 hz
 obtain⟨zs,h1,h2,_,_⟩:=fu hz
 obtain⟨i,zv,hi,hzv,rfl,hall⟩:=cG h1
 have hsz:P.cellsOf el=i.size:=by simp [Program.cellsOf,hi]
 have hbz:P.bytesOf el=i.bytes:=by simp [Program.bytesOf,hi]
 obtain⟨src,news,hsrc⟩:=fL hI hpos hx hs
 have hone: ∀ u∈zv.cells.toList,u.oneCell'=true:=fun u hu=>List.all_eq_true.1 hall u hu
 have look': ∀ q s rs,S'.look q= .sl s rs→S.look q= .sl s rs:=by
  intro q s rs h
  rw [hsrc.gone] at h
  cases src with
  | none=>exact h
  | some q0=>
    simp only at h
    have hne:q.r≠q0.r:=by
     intro he
     unfold St.look at h
     simp [aJ,he] at h
    rw [←h]
    exact (de hne).symm
 have ng':S'.ng=S.ng∧S'.fz=S.fz:=by
  rw [hsrc.gone]
  cases src <;> exact⟨rfl,rfl⟩
 have go: ∀ {rows:List (List T)} {ab:Option Addr} {cap:Nat} {bp:Option ap} {olds:List Value} {S1:St},kA w bt S' S1 (P.cellsOf el) rows bv ab cap bp olds→v= .own ⟨S.ng,[]⟩ (P.cellsOf el) 0 (rows.length+more.length)→
   S3= { S1 with gh:=aJ S1.gh S.ng (some (.sl (P.cellsOf el) (rows++more))),ng:=S.ng+1 } → ∃ u w' bt',(Builtin.append_ #[t,t] ty #[bv,xv]).run P w= .ok u w'∧bg w0 W bt S a bt' S3 w'∧VR w' bt' v u:=by
  intro rows ab cap bp olds S1 hbas hve hSe
  have hnn:n=rows.length+more.length:=by
   rw [hv] at hve
   simp only [AV.own.injEq] at hve
   exact hve.2.2.2
  obtain⟨u,w',b,cap',hr,hap⟩:=gL (P:=P) (w:=w) (t:=t) (ty:=ty) (e:=el) (i:=i) (z:=zv) (ab:=ab) (len:=rows.length) (cap:=cap) (m:=more.length) (olds:=olds) (news:=news) (x:=xv) (bD hel) hi hzv (by rw [←hsz,←h2]; simp) hone (by omega) hbas.le (by rw [←hsz]; exact hbas.len) (by rw [←hsz]; exact hsrc.len) (by rw [←hsz]; exact hbas.cur)
   (by
     rcases hsrc.val with ⟨h,h'⟩ | h
     ·exact .inl ⟨by rw [h]; rfl,h'⟩
     ·exact .inr h) hsrc.one (by omega) (by rw [←hbz,←hnn]; exact hby)
  rw [←hsz] at hap
  obtain⟨bt',g1,_,g2⟩:=gk hI hE hfz hsrc hbas hap
  rw [hSe,hve]
  refine⟨u,w',bt',?_,g1,g2⟩
  rw [hbas.val]
  exact hr
 cases hb with
 | em ab=>
   simp only [c9,Option.some.injEq,Prod.mk.injEq] at h
   obtain⟨rfl,rfl⟩:=h
   refine go (rows:= []) (ab:=ab) (cap:=0) (bp:=none) (olds:= []) (S1:=S') ⟨rfl,Nat.le_refl _,fun h=>absurd h (by omega),by simp,fun i r hi=>by simp at hi,fun h=>absurd h (by omega),rfl,fun p hp=>(nomatch hp),fun _=>rfl⟩ ?_ ?_
   ·rw [ng'.1]; simp
   ·rw [ng'.1]; rfl
 | own hp hcap hk ha=>
   rename_i q s' lo' len ad cap
   simp only [c9] at h
   split at h
   ·rename_i hc
    obtain⟨rfl,rfl,hfz'⟩:=hc
    simp only [Option.bind_eq_some_iff] at h
    obtain⟨rows,hrows,h⟩:=h
    split at h
    ·cases h
    ·rename_i hlen
     simp only [Option.some.injEq,Prod.mk.injEq] at h
     obtain⟨rfl,rfl⟩:=h
     have hlook':=cd hrows
     have hlook:=look' _ _ _ hlook'
     have htl: (rows.take len).length=len:=by simp; omega
     have hlr:rows.length≤bt.κ q:=(hI.tr _ _ _ hlook).1
     obtain⟨olds,hol,holds,hcur⟩: ∃ olds:List Value,olds.length=len*P.cellsOf el∧(∀ (i:Nat) (r:List T),(rows.take len)[i]? =some r→r.length=P.cellsOf el∧ ∀ (j:Nat) (y:T),r[j]? =some y→ ∃ c,olds[i*P.cellsOf el+j]? =some c∧jQ bt (some q) i j y c)∧
       (0 < cap→ ∃ g cur e',ad=some ⟨g,0,none⟩∧w.heap[g]? =some (.cells cur e' (0,0))∧cap*P.cellsOf el≤cur.size∧(∀ (k:Nat) (u:Value),cur[k]? =some u→u.oneCell'=true)∧ ∀ (k:Nat) (u:Value),olds[k]? =some u→cur[k]? =some u):=by
      rcases Nat.eq_zero_or_pos cap with h0 | h0
      ·have hl0:len=0:=by omega
       subst hl0
       exact⟨[],by simp,fun i r hi=>by simp at hi,fun h=>absurd h (by omega)⟩
      ·obtain⟨olds,g1,g2,g3,g4⟩:=eg hI (lo:=0) (len:=len) hlook (by omega) (by omega)
       obtain⟨_,arr,e,k1,k2,k3,k4⟩:=(hI.tr _ _ _ hlook).2 (by omega)
       refine⟨olds,g1,fun i r hi=> ?_,fun _=>⟨bt.β q,arr,e,by rw [ha h0,Nat.zero_mul],k1,Nat.le_trans (Nat.mul_le_mul_right _ (by omega)) k2,k3,fun k u hk'=> ?_⟩⟩
       ·rw [List.drop_zero] at g4
        obtain⟨m1,m2⟩:=g4 i r hi
        refine⟨m1,fun j y hy=> ?_⟩
        obtain⟨c,m3,m4⟩:=m2 j y hy
        rw [Nat.zero_add] at m4
        exact⟨c,m3,m4⟩
       ·have:=g3 k u hk'
        rw [Go.Proofs.YtkcgfceffffmoaaGreat.En.add_lit,cb k1,Nat.zero_mul,Nat.zero_add] at this
        exact this
     refine go (rows:=rows.take len) (ab:=ad) (cap:=cap) (bp:=some q) (olds:=olds) (S1:=if q.l= [] then { S' with gh:=aJ S'.gh q.r none } else S'.setAt q .dd)
      ⟨by rw [htl],by rw [htl]; exact hcap,fun h0=>⟨q,rfl,by rw [ha h0,Nat.zero_mul],by omega⟩,by rw [htl]; exact hol,holds,hcur,rfl,fun p hp=>by
       cases hp
       exact⟨hfz',rows,hlook',by rw [htl]⟩,fun h=>by cases h⟩ ?_ ?_
     ·rw [ng'.1,htl]
     ·rw [ng'.1]
   ·cases h
 | _=>simp [c9] at h
def eP (P:Program) (o:Oper):Bool:=match o.op with
 | .load t _=>decide (0 < P.cellsOf t)
 | .store t _ _=>decide (0 < P.cellsOf t)&&(P.info? t).isSome
 | .indexAddr t _ _=>match fC P t with | some el=>(P.info? el).isSome | none=>true
 | .slice t _ _ _ _=>match fC P t with | some el=>(P.info? el).isSome | none=>true
 | .select .. =>false
 | .call { callee:= .value _,args:=as,argTypes:=ts } =>ts.size==as.size
 | _=>true
theorem iH {D:eI} {o:Oper} {v:AV} (hI:aH w0 W bt S w) (hE:ER w bt S a) (hok:eP P o=true) (hp:dK o=true) (h:aX D P S o=some v):
  ∃ u,(execOp a.eval o).run P w= .ok (.value u) w∧VR w bt v u:=by
 refine gd hI hE hp (fun t x he=> ?_) (fun t x y he el hel=> ?_) (fun t x lo hi he el hel=> ?_) h
 ·simpa [eP,he] using hok
 ·simp only [eP,he,hel] at hok
  exact Option.isSome_iff_exists.1 hok
 ·simp only [eP,he,hel] at hok
  exact Option.isSome_iff_exists.1 hok
theorem bg.refl (hI:aH w0 W bt S w) (hE:ER w bt S a):bg w0 W bt S a bt S w:=⟨hI,hE,rfl,trivial,Nat.le_refl _,fun _ _=>⟨rfl,rfl⟩,fun _ _ h=>h⟩
theorem jd {v:AV} (h1:v≠ .dead) (h2: ∀ vs,v≠ .tup vs):v.isDead=false:=by
 cases v with
 | dead=>exact absurd rfl h1
 | tup vs=>exact absurd rfl (h2 vs)
 | _=>rfl
theorem je {D:eI} {o:Oper} {v:AV} {S':St} (hI:aH w0 W bt S w) (hE:ER w bt S a) (hfz:S.fz≤S.ng) (hok:eP P o=true) (hf:i9 o=false) (h:cQ D P S o=some (v,S')):
  ∃ u w' bt',((execOp a.eval o).run P w= .ok (.value u) w'∨((execOp a.eval o).run P w= .ok .skip w'∧u=undef))∧bg w0 W bt S a bt' S' w'∧VR w' bt' v u:=by
 obtain⟨dst,op,type,pos,after,guard⟩:=o
 have val: ∀ {v S'},dK ⟨dst,op,type,pos,after,guard⟩=true→(aX D P S ⟨dst,op,type,pos,after,guard⟩).map (fun v=>(v,S))=some (v,S')→
   ∃ u w' bt',((execOp a.eval ⟨dst,op,type,pos,after,guard⟩).run P w= .ok (.value u) w'∨((execOp a.eval ⟨dst,op,type,pos,after,guard⟩).run P w= .ok .skip w'∧u=undef))∧bg w0 W bt S a bt' S' w'∧VR w' bt' v u:=by
  intro v S' hp h
  simp only [Option.map_eq_some_iff,Prod.mk.injEq] at h
  obtain⟨v',h1,rfl,rfl⟩:=h
  obtain⟨u,g1,g2⟩:=iH hI hE hok hp h1
  exact⟨u,w,bt, .inl g1,bg.refl hI hE,g2⟩
 have sc: ∀ {v S'},(∀ cs b,op≠ .select cs b)→(aB P S ⟨dst,op,type,pos,after,guard⟩).map (fun v=>(v,S))=some (v,S')→
   ∃ u w' bt',((execOp a.eval ⟨dst,op,type,pos,after,guard⟩).run P w= .ok (.value u) w'∨((execOp a.eval ⟨dst,op,type,pos,after,guard⟩).run P w= .ok .skip w'∧u=undef))∧bg w0 W bt S a bt' S' w'∧VR w' bt' v u:=by
  intro v S' hs h
  simp only [Option.map_eq_some_iff,Prod.mk.injEq] at h
  obtain⟨v',h1,rfl,rfl⟩:=h
  obtain⟨u,g1,g2⟩:=dc hE (fun cs b=>hs cs b) h1
  exact⟨u,w,bt, .inl g1,bg.refl hI hE,g2⟩
 cases op with
 | alloc t=>
   simp only [cQ,Option.map_eq_some_iff,Prod.mk.injEq] at h
   obtain⟨zs,hz,rfl,rfl⟩:=h
   have hm:zs.map j0=zs.map iA:=by
    refine List.map_congr_left fun c hc=> ?_
    obtain⟨i,z,_,_,rfl,hall⟩:=cG hz
    have:=List.all_eq_true.1 hall c hc
    unfold j0
    split
    ·simp [Value.oneCell'] at this
    ·rfl
   obtain⟨u,w',bt',g1,g2,g3⟩:=gf hI hE hfz hz
   rw [hm]
   exact⟨u,w',bt', .inl (by simp [execOp,g1]),g2,g3⟩
 | box t x=>
   simp only [cQ] at h
   have hv:=ah hE x
   split at h
   ·cases h
   ·cases h
   ·rename_i h1 h2
    simp only [Option.some.injEq,Prod.mk.injEq] at h
    obtain⟨rfl,rfl⟩:=h
    obtain⟨u,w',bt',g1,g2,g3⟩:=ib (P:=P) (t:=t) hI hE hfz hv (jd h1 h2)
    exact⟨u,w',bt', .inl (by simp [execOp,g1]),g2,g3⟩
 | store t x y=>
   simp only [cQ,Option.map_eq_some_iff,Prod.mk.injEq] at h
   obtain⟨S2,h1,rfl,rfl⟩:=h
   simp only [eP,Bool.and_eq_true,decide_eq_true_eq] at hok
   obtain⟨i,hi⟩:=Option.isSome_iff_exists.1 hok.2
   obtain⟨w',bt',g1,g2⟩:=gi hI hE hi hok.1 (ah hE x) (ah hE y) h1
   exact⟨undef,w',bt', .inr ⟨by simp [execOp,g1],rfl⟩,g2, .dead _⟩
 | makeSlice t l c=>
   simp only [cQ,Option.bind_eq_some_iff] at h
   obtain⟨el,hel,n,hn,m,hm,z,hz,h⟩:=h
   split at h
   ·rename_i hc
    obtain⟨h0,rfl,h2,h3⟩:=hc
    simp only [Option.some.injEq,Prod.mk.injEq] at h
    obtain⟨rfl,rfl⟩:=h
    obtain⟨kl,hl⟩:=dt hn (ah hE l)
    obtain⟨kc,hc⟩:=dt hm (ah hE c)
    obtain⟨u,w',bt',g1,g2,g3⟩:=ez (kl:=kl) (kc:=kc) hI hE hfz hel hz h0 h2 h3
    exact⟨u,w',bt', .inl (by simp [execOp,hl,hc,g1]),g2,g3⟩
   ·cases h
 | buildSlice t len parts=>
   simp only [cQ,Option.bind_eq_some_iff] at h
   obtain⟨el,hel,h⟩:=h
   split at h
   ·rename_i hc
    obtain⟨h1,h2,h3,h4,h5⟩:=hc
    simp only [Option.map_eq_some_iff,Prod.mk.injEq] at h
    obtain⟨S2,h6,rfl,rfl⟩:=h
    obtain⟨u,w',bt',g1,g2,g3,_⟩:=ef hI hE hfz hel h1 h2 h3 h4 h5 h6
    exact⟨u,w',bt', .inl (by simp [execOp,g1]),g2,g3⟩
   ·cases h
 | call c=>
   obtain⟨cl,as,ts⟩:=c
   cases cl with
   | value f=>simp [i9] at hf
   | invoke r m=>exact sc (by simp) (by simpa [cQ,aX] using h)
   | builtin b=>
     cases b with
     | append=>
       simp only [cQ] at h
       split at h
       ·rename_i s x t t' e1 e2
        have e1:as= #[s,x] :=by apply Array.ext'; simpa using e1
        have e2:ts= #[t,t'] :=by apply Array.ext'; simpa using e2
        subst e1 e2
        split at h
        ·rename_i htt
         subst htt
         simp only [Option.bind_eq_some_iff] at h
         obtain⟨el,hel,⟨more,S1⟩,h1,⟨v1,S3⟩,h2,h⟩:=h
         simp only at h2 h
         split at h
         ·rename_i p s' lo n
          split at h
          ·rename_i hc
           obtain⟨k1,k2,k3,k4⟩:=hc
           simp only [Option.some.injEq,Prod.mk.injEq] at h
           obtain⟨rfl,rfl⟩:=h
           obtain⟨u,w',bt',g1,g2,g3⟩:=fM (ty:=type) hI hE hfz hel (ah hE s) (ah hE x) h1 h2 rfl k1 k2 k3 k4
           exact⟨u,w',bt', .inl (by simp [execOp,resolve,invoke,builtin,g1]),g2,g3⟩
          ·cases h
         ·cases h
        ·cases h
       ·cases h
     | len=>exact val rfl (by simpa [cQ] using h)
     | max=>exact val rfl (by simpa [cQ] using h)
     | min=>exact val rfl (by simpa [cQ] using h)
     | _=>exact sc (by simp) (by simpa [cQ,aX] using h)
 | select cs b=>simp [eP] at hok
 | _=>exact val rfl (by simpa [cQ] using h)
end
end Go.Proofs.YtkcgfceffffmoaaGreat.En
namespace Go.Proofs.YtkcgfceffffmoaaGreat.En
open Go Go.RowKit
section
variable {P:Program} {w0 w w':World} {W:Nat→Prop} {bt:Bt} {S:St} {a:Act}
theorem hN (hI:aH w0 W bt S w) {A:Nat→Prop} (hA: ∀ p s rs,S.look p= .sl s rs→0 < bt.κ p→A (bt.β p)): ∀ (n:Nat) (p:ap) (t:T) (u:Value),SizeOf.sizeOf t≤n→HR bt p t u→u.oneCell'=true→(∀ s rs,t= .sl s rs→S.look p= .sl s rs)→RO w A t u:=by
 intro n
 induction n with
 | zero=>intro p t u hn; cases t <;> simp at hn
 | succ n ih=>
   intro p t u hn h ho hl
   cases h with
   | sc h=>exact .sc h
   | dd=>exact .dd ho
   | sl hc hk ha=>
     rename_i sz rows ad cap
     rcases Nat.eq_zero_or_pos rows.length with h0 | h0
     ·have :rows= [] :=List.eq_nil_of_length_eq_zero h0
      subst this
      exact .em _ _ _
     ·have hlook:=hl _ _ rfl
      obtain⟨_,arr,e,g1,g2,g3,g4⟩:=(hI.tr _ _ _ hlook).2 (by omega)
      rw [ha (by omega)]
      have each: ∀ (i:Nat) (r:List T) (j:Nat) (x:T),rows[i]? =some r→r[j]? =some x→ ∃ c,arr[i*sz+j]? =some c∧HR bt (p.sub i j) x c:=by
       intro i r j x hi hj
       exact (g4 i r hi).2 j x hj
      refine .sl (fun i j=>(arr[i*sz+j]?).getD undef) hc rfl (hA _ _ _ hlook (by omega)) (fun i r hi=>(g4 i r hi).1) (fun i r j x hi hj=> ?_) (fun i r j x hi hj=> ?_)
      ·obtain⟨c,k1,_⟩:=each i r j x hi hj
       rw [add_lit,cb g1,Nat.zero_add,k1]
       rfl
      ·obtain⟨c,k1,k2⟩:=each i r j x hi hj
       rw [k1]
       refine ih (p.sub i j) x c ?_ k2 (g3 _ _ k1) (fun s rs hx=> ?_)
       ·have h1:SizeOf.sizeOf x < SizeOf.sizeOf r:=List.sizeOf_lt_of_mem (List.mem_of_getElem? hj)
        have h2:SizeOf.sizeOf r < SizeOf.sizeOf rows:=List.sizeOf_lt_of_mem (List.mem_of_getElem? hi)
        simp at hn
        omega
       ·unfold St.look at hlook ⊢
        split at hlook
        ·rename_i t ht
         show (match S.gh p.r with | some t=>t.go (p.l++ [(i,j)]) | none=> .dd)=_
         rw [ht]
         simp only
         rw [T.go_append,hlook]
         simp only [T.go,T.cell,List.getD_eq_getElem?_getD,hi,Option.getD_some,hj]
         exact hx
        ·cases hlook
theorem iI (hI:aH w0 W bt S w) {A:Nat→Prop} (hA: ∀ p s rs,S.look p= .sl s rs→0 < bt.κ p→A (bt.β p)) {p:ap} {s lo len:Nat} {rows:List (List T)} {u:Value} (h:VR w bt (.own p s lo len) u) (hr:S.rows p s=some rows) (hle:lo+len≤rows.length):
  RO w A (.sl s ((rows.drop lo).take len)) u:=by
 have hlook:=cd hr
 cases h with
 | own hp hc hk ha=>
   rename_i ad cap
   have hlen: ((rows.drop lo).take len).length=len:=by simp; omega
   rcases Nat.eq_zero_or_pos len with h0 | h0
   ·subst h0
    simp only [List.take_zero]
    exact .em _ _ _
   ·obtain⟨_,arr,e,g1,g2,g3,g4⟩:=(hI.tr _ _ _ hlook).2 (by omega)
    rw [ha (by omega)]
    have sub: ∀ (i:Nat) (r:List T),((rows.drop lo).take len)[i]? =some r→rows[lo+i]? =some r:=by
     intro i r hi
     rw [List.getElem?_take] at hi
     split at hi
     ·rwa [List.getElem?_drop] at hi
     ·cases hi
    have cx:RO w A (.sl s ((rows.drop lo).take len)) (.slice (some ⟨bt.β p,lo*s,none⟩) ((rows.drop lo).take len).length cap):=by
     refine .sl (fun i j=>(arr[(lo+i)*s+j]?).getD undef) (by omega) rfl (hA _ _ _ hlook (by omega)) (fun i r hi=>(g4 _ r (sub i r hi)).1) (fun i r j x hi hj=> ?_) (fun i r j x hi hj=> ?_)
     ·obtain⟨c,k1,_⟩:=(g4 _ r (sub i r hi)).2 j x hj
      rw [add_lit,cb g1,show lo*s+(i*s+j)=(lo+i)*s+j by rw [Nat.add_mul]; omega,k1]
      rfl
     ·obtain⟨c,k1,k2⟩:=(g4 _ r (sub i r hi)).2 j x hj
      rw [k1]
      refine hN hI hA _ (p.sub (lo+i) j) x c (Nat.le_refl _) k2 (g3 _ _ k1) (fun s' rs hx=> ?_)
      unfold St.look at hlook ⊢
      split at hlook
      ·rename_i t ht
       show (match S.gh p.r with | some t=>t.go (p.l++ [(lo+i,j)]) | none=> .dd)=_
       rw [ht]
       simp only
       rw [T.go_append,hlook]
       simp only [T.go,T.cell,List.getD_eq_getElem?_getD,sub i r hi,Option.getD_some,hj]
       exact hx
      ·cases hlook
    rw [hlen] at cx
    exact cx
def eR (bt:Bt) (w:World):Bt:= { bt with A:=fun b=>b < w.heap.size }
theorem fN (hI:aH w0 W bt S w):bt.le (eR bt w):=⟨Nat.le_refl _,Nat.le_refl _,fun b hb=>hI.alt b hb,fun _ _=>rfl,fun _ _=>rfl,fun _ _=>rfl⟩
theorem jf (hI:aH w0 W bt S w) {v:AV} {u:Value} (sz:Nat) (h:VR w bt v u) (ho:u.oneCell'=true):RO w (eR bt w).A (T.ofAV S sz v) u:=by
 cases v with
 | sc v=>cases h with | sc h=>exact .sc h
 | em=>cases h with | em a=>exact .em _ _ _
 | ro s rows=>cases h with | ro h=>exact h.mono (fun b hb=>hI.alt b hb) (fun _ _=>rfl)
 | own p s lo len=>
   simp only [T.ofAV]
   split
   ·split
    ·exact iI hI (fun _ _ _ h hk=>hI.βlt h hk) h ‹_› ‹_›
    ·exact .dd ho
   ·exact .dd ho
 | _=>exact .dd ho
theorem dv (hI:aH w0 W bt S w) {v:AV} {u:Value} (sz:Nat) (h:VR w bt v u):VR w (eR bt w) (cw S sz v) u:=by
 cases v with
 | sc v=>exact h.mono (fN hI) (fun _ _=>rfl)
 | em=>cases h with | em a=>exact .ro (.em _ _ _)
 | ro s rows=>exact h.mono (fN hI) (fun _ _=>rfl)
 | pro cells=>exact h.mono (fN hI) (fun _ _=>rfl)
 | own p s lo len=>
   simp only [cw]
   split
   ·split
    ·exact .ro (iI hI (fun _ _ _ h hk=>hI.βlt h hk) h ‹_› ‹_›)
    ·exact .dead _
   ·exact .dead _
 | ptrB b j=>
   simp only [cw]
   split
   ·rename_i cs hb
    cases h with
    | ptrB j hn=>
      obtain⟨_,_,arr,e,g1,g2,g3⟩:=hI.bx _ _ hb
      refine .pro (fun k=>(arr[j+k]?).getD undef) rfl (hI.bblt hb) (fun k x hk=> ?_) (fun k x hk=> ?_)
      ·rw [List.getElem?_map] at hk
       simp only [Option.map_eq_some_iff] at hk
       obtain⟨v,hv,rfl⟩:=hk
       rw [List.getElem?_drop] at hv
       obtain⟨c,k1,k2,k3⟩:=g3 _ _ hv
       rw [add_lit,cb g1,k1]
       rfl
      ·rw [List.getElem?_map] at hk
       simp only [Option.map_eq_some_iff] at hk
       obtain⟨v,hv,rfl⟩:=hk
       rw [List.getElem?_drop] at hv
       obtain⟨c,k1,k2,k3⟩:=g3 _ _ hv
       rw [k1]
       exact jf hI 0 k2 k3
   ·exact .dead _
 | ptrT p s i j=>
   simp only [cw]
   split
   ·rename_i rows hr
    have hlook:=cd hr
    cases h with
    | ptrT s i j hp hk=>
      obtain⟨_,arr,e,g1,g2,g3,g4⟩:=(hI.tr _ _ _ hlook).2 (by omega)
      have each: ∀ (k:Nat) (x:T),((rows.getD i []).drop j)[k]? =some x→ ∃ r c,rows[i]? =some r∧r[j+k]? =some x∧arr[i*s+j+k]? =some c∧HR bt (p.sub i (j+k)) x c:=by
       intro k x hx
       rw [List.getElem?_drop] at hx
       cases hr':rows[i]? with
       | none=>simp [hr'] at hx
       | some r=>
         simp only [List.getD_eq_getElem?_getD,hr',Option.getD_some] at hx
         obtain⟨c,k1,k2⟩:=(g4 i r hr').2 _ _ hx
         exact⟨r,c,rfl,hx,by rw [Nat.add_assoc]; exact k1,k2⟩
      refine .pro (fun k=>(arr[i*s+j+k]?).getD undef) rfl (hI.βlt hlook (by omega)) (fun k x hx=> ?_) (fun k x hx=> ?_)
      ·obtain⟨r,c,k0,k1,k2,k3⟩:=each k x hx
       rw [add_lit,cb g1,k2]
       rfl
      ·obtain⟨r,c,k0,k1,k2,k3⟩:=each k x hx
       rw [k2]
       refine hN hI (fun _ _ _ h hk=>hI.βlt h hk) _ (p.sub i (j+k)) x c (Nat.le_refl _) k3 (g3 _ _ k2) (fun s' rs hxx=> ?_)
       unfold St.look at hlook ⊢
       split at hlook
       ·rename_i t ht
        show (match S.gh p.r with | some t=>t.go (p.l++ [(i,j+k)]) | none=> .dd)=_
        rw [ht]
        simp only
        rw [T.go_append,hlook]
        simp only [T.go,T.cell,List.getD_eq_getElem?_getD,k0,Option.getD_some,k1]
        exact hxx
       ·cases hlook
   ·exact .dead _
 | _=>exact .dead _
theorem iJ (hI:aH w0 W bt S w) {v:AV} {u:Value} (szs:List Nat) (h:VR w bt v u):VR w (eR bt w) (et S szs v) u:=by
 cases v with
 | agg cs=>
   simp only [et]
   split
   ·rename_i hl
    cases h with
    | agg hl' ho hr=>
      rename_i us
      refine .agg (by simp [hl,hl']) ho (fun k c u h1 h2=> ?_)
      rw [List.getElem?_zipWith] at h1
      split at h1
      ·rename_i s c' e1 e2
       simp only [Option.some.injEq] at h1
       subst h1
       exact dv hI s (hr k c' u e2 h2)
      ·cases h1
   ·exact .dead _
 | fn f caps=>
   cases h with
   | fn f hl hr=>
     rename_i us
     refine .fn f (by simp [hl]) (fun k c u h1 h2=> ?_)
     rw [List.getElem?_map] at h1
     simp only [Option.map_eq_some_iff] at h1
     obtain⟨c',e1,rfl⟩:=h1
     exact dv hI 0 (hr k c' u e1 h2)
 | _=>exact dv hI (szs.headD 0) h
def iK (P:Program) (f:FuncId) (args:List AV) (gs:List T) (res:AV) (out:List T):Prop:=
 ∀ (w:World) (W:Nat→Prop) (bt0:Bt) (vals:List Value),aH w W bt0 (dz gs) w→vals.length=args.length→(∀ (k:Nat) (v:AV) (u:Value),args[k]? =some v→vals[k]? =some u→VR w bt0 v u)→
   (callFunc f vals.toArray).run P w= .ok (.enter f vals.toArray) w∧
   Calls P f vals.toArray w fun e w'=> ∃ v btn,e= .returned v∧aH w W btn (dz out) w'∧gs.length≤out.length∧(∀ p:ap,p.r < gs.length→btn.β p=bt0.β p∧btn.κ p=bt0.κ p)∧VR w' btn res v
def iL (P:Program) (D:eI):Prop:= ∀ d f args gs res out,D d f args gs=some (res,out)→iK P f args gs res out
theorem cS (p:ap) (s:Nat) (rs:List (List T)): (dz []).look p≠ .sl s rs:=by simp [St.look,dz]
theorem jg (w:World) (bt:Bt) (hA: ∀ b,bt.A b→b < w.heap.size):aH w (fun _=>False) { bt with nb:=0,ng:=0 } (dz []) w:=
 { os:=rfl,tape:=rfl,output:=rfl,size:=Nat.le_refl _,keep:=fun _ _ _=>rfl,nb:=rfl,ng:=rfl
   bx:=fun n cells h=>by cases h
   gh:=fun r t h=>by simp [dz] at h
   tr:=fun p s rs h=>absurd h (cS p s rs)
   inj:=fun p q s rs s' rs' h=>absurd h (cS p s rs)
   bbinj:=fun n m cs cs' h=>by cases h
   bbtr:=fun n cs p s rs h=>by cases h
   alt:=hA
   atr:=fun p s rs h=>absurd h (cS p s rs)
   abb:=fun n cs h=>by cases h }
def AV.ro0:AV→Bool
 | .sc _ | .em | .ro _ _ | .pro _ | .dead=>true
 | _=>false
def AV.readOnly:AV→Bool
 | .agg cs=>cs.all AV.ro0
 | .fn _ cs=>cs.all AV.ro0
 | v=>v.ro0
theorem VR.readOnly0 {bt':Bt} (hA:bt'.A=bt.A) {v:AV} {u:Value} (h:VR w bt v u) (hr:v.ro0=true):VR w bt' v u:=by
 cases h with
 | sc h=>exact .sc h
 | em a=>exact .em a
 | ro h=>exact .ro (by rw [hA]; exact h)
 | pro cs hs hb hc ht=>exact .pro cs hs (by rw [hA]; exact hb) hc (fun j x hx=>by rw [hA]; exact ht j x hx)
 | dead u=>exact .dead u
 | _=>simp [AV.ro0] at hr
theorem VR.readOnly {bt':Bt} (hA:bt'.A=bt.A) {v:AV} {u:Value} (h:VR w bt v u) (hr:v.readOnly=true):VR w bt' v u:=by
 cases v with
 | agg cs=>
   cases h with
   | agg hl ho hc=>exact .agg hl ho (fun k c u h1 h2=>(hc k c u h1 h2).readOnly0 hA (List.all_eq_true.1 hr c (List.mem_of_getElem? h1)))
 | fn f cs=>
   cases h with
   | fn f hl hc=>exact .fn f hl (fun k c u h1 h2=>(hc k c u h1 h2).readOnly0 hA (List.all_eq_true.1 hr c (List.mem_of_getElem? h1)))
 | _=>exact h.readOnly0 hA hr
theorem dw (S:St) (sz:Nat) (v:AV): (cw S sz v).ro0=true:=by
 cases v <;> simp only [cw] <;> (try split) <;> (try split) <;> rfl
theorem fO {v:AV} (h:v.ro0=true):v.readOnly=true:=by
 cases v <;> first | exact h | simp [AV.ro0] at h
theorem iM (S:St) (szs:List Nat) (v:AV): (et S szs v).readOnly=true:=by
 have one: ∀ {v:AV},v.ro0=true→v.readOnly=true:=by
  intro v h
  cases v <;> first | exact h | simp [AV.ro0] at h
 cases v with
 | agg cs=>
   simp only [et]
   split
   ·refine List.all_eq_true.2 (fun c hc=> ?_)
    obtain⟨k,hk,rfl⟩:=List.getElem_of_mem hc
    simp only [List.getElem_zipWith]
    exact dw _ _ _
   ·rfl
 | fn f caps=>
   simp only [et]
   refine List.all_eq_true.2 (fun c hc=> ?_)
   obtain⟨d,_,rfl⟩:=List.mem_map.1 hc
   exact dw _ _ _
 | _=>
   simp only [et]
   exact one (dw S (szs.headD 0) _)
end
end Go.Proofs.YtkcgfceffffmoaaGreat.En
namespace Go.Proofs.YtkcgfceffffmoaaGreat.En
open Go Go.RowKit
section
variable {P:Program} {w0 w w':World} {W:Nat→Prop} {bt btn:Bt} {S:St} {a:Act}
theorem fP {out:List T} (hC:aH w (fun _=>False) btn (dz out) w'):Below w.heap.size w w':=
 ⟨hC.os,hC.tape,hC.output,hC.size,fun k hk=>hC.keep k hk (fun h=>h)⟩
theorem iO {k n:Nat} (hng:btn.ng=k) (hn:bt.ng=n) {v:AV} {u:Value} (h:VR w' btn v u):VR w' (bt.add btn k) (js n v) u:=by
 have one: ∀ {v u},VR w' btn v u→VR w' (bt.add btn k) (gH n v) u:=by
  intro v u h
  cases h with
  | sc h=>exact .sc h
  | own hp hc hk ha=>
    rename_i p sz lo len ad cap
    have e1: (bt.add btn k).κ ⟨p.r+n,p.l⟩=btn.κ p:=by simp only [Bt.add,hn]; rw [if_pos (by omega),Nat.add_sub_cancel]
    have e2: (bt.add btn k).β ⟨p.r+n,p.l⟩=btn.β p:=by simp only [Bt.add,hn]; rw [if_pos (by omega),Nat.add_sub_cancel]
    exact .own (by show p.r+n < bt.ng+k; omega) hc (by rw [e1]; exact hk) (by rw [e2]; exact ha)
  | _=>exact .dead _
 have two: ∀ {v u},VR w' btn v u→VR w' (bt.add btn k) (gI n v) u:=by
  intro v u h
  cases v with
  | agg cs=>
    cases h with
    | agg hl ho hr=>
      refine .agg (by simpa using hl) ho (fun j c u h1 h2=> ?_)
      rw [List.getElem?_map] at h1
      simp only [Option.map_eq_some_iff] at h1
      obtain⟨c',e1,rfl⟩:=h1
      exact one (hr j c' u e1 h2)
  | _=>exact one h
 cases v with
 | tup vs=>
   cases h with
   | tup hl hr=>
     refine .tup (by simpa using hl) (fun j c u h1 h2=> ?_)
     rw [List.getElem?_map] at h1
     simp only [Option.map_eq_some_iff] at h1
     obtain⟨c',e1,rfl⟩:=h1
     exact two (hr j c' u e1 h2)
 | _=>exact two h
theorem fg (hI:aH w0 W bt S w) (hE:ER w bt S a) (hfz:S.fz≤S.ng) {res:AV} {out:List T} {u:Value} (hC:aH w (fun _=>False) btn (dz out) w') (hv:VR w' btn res u):
  ∃ bt',bg w0 W bt S a bt' (fE S (res,out)).2 w'∧bt.le bt'∧VR w' bt' (fE S (res,out)).1 u:=by
 have hb:=fP hC
 have hg:dA w0 W bt S w w':=dA.of_below hb
 have hi:=(hI.change hg).addRoots btn out (fun p s rs h=>by
   obtain⟨h1,h2⟩:=hC.tr p s rs h
   refine⟨h1,fun hk=>⟨?_,(h2 hk).2⟩⟩
   rcases (h2 hk).1 with h | h
   ·exact .inl (Nat.le_trans hI.size h)
   ·exact h.elim) hC.inj (fun p s rs h hk=>by
   have hge:w.heap.size≤btn.β p:=by
    rcases ((hC.tr p s rs h).2 hk).1 with h | h
    ·exact h
    ·exact h.elim
   exact hI.fresh hge)
 have hle:=Bt.le_add bt btn out.length
 refine⟨_,⟨hi,⟨hE.1,fun t=>(hE.2 t).mono hle (hg.A hI)⟩,rfl,trivial,Nat.le_add_right _ _,fun p hp=>⟨hle.β p (by rw [hI.ng]; omega),hle.κ p (by rw [hI.ng]; omega)⟩,fun r hr hn=> ?_⟩,hle,iO hC.ng hI.ng hv⟩
 have : (if S.ng≤r∧r < S.ng+out.length then out[r - S.ng]? else S.gh r)=none:=hn
 rwa [if_neg (by omega)] at this
theorem jh (hI:aH w0 W bt S w) (hE:ER w bt S a) {ts:Array TypeId} {as:Array Operand} {caps:List AV} {us:List Value} (hts:ts.size=as.size) (hl:us.length=caps.length)
  (hc: ∀ (k:Nat) (c:AV) (u:Value),caps[k]? =some c→us[k]? =some u→VR w bt c u):
  (as.toList.map a.eval++us).length=(args P S ts as caps).length∧ ∀ (k:Nat) (v:AV) (u:Value),(args P S ts as caps)[k]? =some v→(as.toList.map a.eval++us)[k]? =some u→VR w { eR bt w with nb:=0,ng:=0 } v u:=by
 have l1: (List.zipWith (fun t x=>et S (fq P 9 t) (opd S x)) ts.toList as.toList).length=as.size:=by simp [hts]
 refine⟨by simp [args,hts,hl],fun k v u h1 h2=> ?_⟩
 unfold args at h1
 by_cases hk:k < as.size
 ·rw [List.getElem?_append_left (by omega)] at h1
  rw [List.getElem?_append_left (by simpa using hk),List.getElem?_map] at h2
  rw [List.getElem?_zipWith] at h1
  split at h1
  ·rename_i t x e1 e2
   simp only [Option.some.injEq] at h1
   rw [e2] at h2
   simp only [Option.map_some,Option.some.injEq] at h2
   subst h1 h2
   exact VR.readOnly (bt:=eR bt w) (bt':= { eR bt w with nb:=0,ng:=0 }) rfl (iJ hI _ (ah hE x)) (iM _ _ _)
  ·cases h1
 ·rw [List.getElem?_append_right (by omega),l1,List.getElem?_map] at h1
  rw [List.getElem?_append_right (by simp; omega)] at h2
  simp only [List.length_map,Array.length_toList] at h2
  simp only [Option.map_eq_some_iff] at h1
  obtain⟨c,e1,rfl⟩:=h1
  exact VR.readOnly (bt:=eR bt w) (bt':= { eR bt w with nb:=0,ng:=0 }) rfl (dv hI 0 (hc _ c u e1 h2)) (fO (dw _ _ _))
theorem iP {D:eI} (hD:iL P D) (hI:aH w0 W bt S w) (hE:ER w bt S a) {o:Oper} {f:Operand} {as:Array Operand} {ts:Array TypeId} (ho:o.op= .call { callee:= .value f,args:=as,argTypes:=ts }) (hts:ts.size=as.size)
  {g:FuncId} {caps:List AV} (hc:callee S f=some (g,caps)) {res:AV} {out:List T} {d:Option Tmp} (hr:D d g (args P S ts as caps) [] =some (res,out)) {K:Act→World→Prop} {Q:Exit→Act→World→Prop}
  (h: ∀ u w' btn,aH w (fun _=>False) btn (dz out) w'→VR w' btn res u→K (a.put o.dst u) w'):o.wp P a w K Q:=by
 have hf:=ah hE f
 have fin: ∀ us:List Value,a.eval f= .func (.func g) #[] us.toArray→us.length=caps.length→(∀ (k:Nat) (c:AV) (u:Value),caps[k]? =some c→us[k]? =some u→VR w bt c u)→o.wp P a w K Q:=by
  intro us he hl hcc
  obtain⟨h1,h2⟩:=jh (P:=P) (ts:=ts) (as:=as) hI hE hts hl hcc
  have hI0:aH w (fun _=>False) { eR bt w with nb:=0,ng:=0 } (dz []) w:=jg w (eR bt w) (fun _ h=>h)
  obtain⟨g1,g2⟩:=hD d g _ [] res out hr w (fun _=>False) _ (as.toList.map a.eval++us) hI0 h1 h2
  have hrun: (execOp a.eval o).run P w= .ok (.enter g (as.toList.map a.eval++us).toArray) w:=by
   have e:as.map a.eval++us.toArray=(as.toList.map a.eval++us).toArray:=by apply Array.ext'; simp
   obtain⟨dst,op,type,pos,after,guard⟩:=o
   simp only at ho
   subst ho
   simp only [execOp,resolve,he,Deferred.ofValue,Sem.run_bind,Sem.run_pure,Result.andThen_ok,invoke,Array.empty_append]
   rw [e]
   exact g1
  unfold Oper.wp
  rw [hrun,Oper.upon_enter]
  refine Calls.mono g2 (fun e w' hh=> ?_)
  obtain⟨v,btn,rfl,k1,_,_,k2⟩:=hh
  exact h v w' btn k1 k2
 unfold callee at hc
 split at hc
 ·rename_i g' x y he
  simp only [Option.some.injEq,Prod.mk.injEq] at hc
  obtain⟨rfl,rfl⟩:=hc
  rw [he] at hf
  generalize hu:a.eval f=u at hf fin
  cases hf with
  | sc hs=>
    simp only [c6,Bool.and_eq_true,Array.isEmpty_iff] at hs
    obtain⟨rfl,rfl⟩:=hs
    exact fin [] rfl rfl (fun k c u h1 _=>by simp at h1)
 ·rename_i g' cs he
  simp only [Option.some.injEq,Prod.mk.injEq] at hc
  obtain⟨rfl,rfl⟩:=hc
  rw [he] at hf
  generalize hu:a.eval f=u at hf fin
  cases hf with
  | fn f hl hcc=>exact fin _ rfl hl hcc
 ·cases hc
theorem aH.more (hI:aH w0 W bt S w) {A:Nat→Prop} (hA: ∀ b,bt.A b→A b) (hlt: ∀ b,A b→b < w.heap.size) (hn: ∀ b,A b→bt.A b∨((∀ n cs,S.bx n=some cs→bt.bb n≠b)∧ ∀ p s rs,S.look p= .sl s rs→0 < bt.κ p→bt.β p≠b)):
  aH w0 W { bt with A:=A } S w∧bt.le { bt with A:=A } :=by
 have hle:bt.le { bt with A:=A } :=⟨Nat.le_refl _,Nat.le_refl _,hA,fun _ _=>rfl,fun _ _=>rfl,fun _ _=>rfl⟩
 refine⟨{ os:=hI.os,tape:=hI.tape,output:=hI.output,size:=hI.size,keep:=hI.keep,nb:=hI.nb,ng:=hI.ng
          bx:=fun n cells h=>by
           obtain⟨h1,h2,h3⟩:=hI.bx n cells h
           exact⟨h1,h2,h3.mono hle (by rw [hI.nb]; exact h1) (fun _ _=>rfl) rfl⟩
          gh:=hI.gh
          tr:=fun p s rs h=>by
           obtain⟨h1,h2⟩:=hI.tr p s rs h
           exact⟨h1,fun hk=>⟨(h2 hk).1,(h2 hk).2.mono hle (hI.look_lt h) rfl⟩⟩
          inj:=hI.inj,bbinj:=hI.bbinj,bbtr:=hI.bbtr,alt:=hlt
          atr:=fun p s rs h hk ha=>by
           rcases hn _ ha with h' | h'
           ·exact hI.atr p s rs h hk h'
           ·exact h'.2 p s rs h hk rfl
          abb:=fun n cs h ha=>by
           rcases hn _ ha with h' | h'
           ·exact hI.abb n cs h h'
           ·exact h'.1 n cs h rfl },hle⟩
end
end Go.Proofs.YtkcgfceffffmoaaGreat.En
namespace Go.Proofs.YtkcgfceffffmoaaGreat.En
open Go Go.RowKit
section
variable {P:Program} {w0 w w':World} {W:Nat→Prop} {btI bt bt':Bt} {SI S S':St} {a a':Act} {D:eI} {Q:Exit→Act→World→Prop}
structure Lv (w0:World) (W:Nat→Prop) (btI:Bt) (SI:St) (bt:Bt) (S:St) (a:Act) (w:World):Prop where
 inv:aH w0 W bt S w
 er:ER w bt S a
 defers:a.defers= []
 fz:S.fz=SI.fz
 fzng:S.fz≤S.ng
 keep: ∀ p:ap,p.r < SI.fz→bt.β p=btI.β p∧bt.κ p=btI.κ p
 gone: ∀ r,r < SI.fz→S.gh r=none→SI.gh r=none
theorem Lv.left (h:Lv w0 W btI SI bt S a w) (g:bg w0 W bt S a bt' S' w'):Lv w0 W btI SI bt' S' a w':=
 ⟨g.inv,g.er,h.defers,g.fz.trans h.fz,by rw [g.fz]; exact Nat.le_trans h.fzng g.ng,fun p hp=>⟨((g.keep p (by rw [h.fz]; exact hp)).1).trans (h.keep p hp).1,((g.keep p (by rw [h.fz]; exact hp)).2).trans (h.keep p hp).2⟩,
  fun r hr hn=>h.gone r hr (g.gone r (by rw [h.fz]; exact hr) hn)⟩
theorem iQ {d:Option Tmp} {v:AV} (h:S.put d v=some S'):S'.bx=S.bx∧S'.gh=S.gh∧S'.nb=S.nb∧S'.ng=S.ng∧S'.fz=S.fz∧S'.nt=S.nt∧S'= { S with env:=S'.env } :=by
 unfold St.put at h
 split at h
 ·split at h
  ·simp only [Option.some.injEq] at h
   subst h
   exact⟨rfl,rfl,rfl,rfl,rfl,rfl,rfl⟩
  ·cases h
 ·simp only [Option.some.injEq] at h
  subst h
  exact⟨rfl,rfl,rfl,rfl,rfl,rfl,rfl⟩
theorem aH.env (h:aH w0 W bt S w) (env:Nat→AV):aH w0 W bt { S with env:=env } w:=
 { os:=h.os,tape:=h.tape,output:=h.output,size:=h.size,keep:=h.keep,nb:=h.nb,ng:=h.ng,bx:=h.bx,gh:=h.gh,tr:=h.tr,inj:=h.inj,bbinj:=h.bbinj,bbtr:=h.bbtr,alt:=h.alt,atr:=h.atr,abb:=h.abb }
theorem Lv.put (h:Lv w0 W btI SI bt S a w) {d:Option Tmp} {v:AV} {u:Value} (hv:VR w bt v u) (hp:S.put d v=some S'):Lv w0 W btI SI bt S' (a.put d u) w:=by
 obtain⟨_,e2,_,e4,e5,_,e7⟩:=iQ hp
 refine⟨by rw [e7]; exact h.inv.env _,h.er.put hv hp,?_,e5.trans h.fz,by rw [e5,e4]; exact h.fzng,h.keep,fun r hr hn=>h.gone r hr (by rw [←e2]; exact hn)⟩
 cases d <;> exact h.defers
theorem iR:VR w bt (.tup []) undef:= .tup (us:= []) rfl (fun _ _ _ h=>by cases h)
theorem ew {ops:Array Oper} {o:Oper} {b:Bool} (hE:ER w bt S a) (h:hH S ops o=some b):Region.wanted o (yielded ops a.tmps)=b:=by
 unfold hH at h
 unfold Region.wanted
 split at h
 ·rename_i hg
  simp only [Option.some.injEq] at h
  simp [hg,h]
 ·rename_i j want hg
  split at h
  ·rename_i d hd
   split at h
   ·rename_i b' he
    simp only [Option.some.injEq] at h
    have hv:=hE.2 d
    rw [he] at hv
    have hu:=hv.inv_sc
    have hy:yielded ops a.tmps j=some b':=by
     unfold yielded
     rw [hd]
     simp only [Option.bind_some]
     cases hx:a.tmps[d]? with
     | none=>
       simp only [Array.getD_eq_getD_getElem?,hx,Option.getD_none] at hu
       cases hu
     | some x=>
       simp only [Array.getD_eq_getD_getElem?,hx,Option.getD_some] at hu
       subst hu
       rfl
    simp only [hg,hy,←h]
    cases b' <;> cases want <;> rfl
   ·rename_i he
    simp only [Option.some.injEq] at h
    have hv:=hE.2 d
    rw [he] at hv
    have hu:a.tmps.getD d undef=undef:=by
     generalize a.tmps.getD d undef=u at hv
     cases hv with
     | tup hl h=>rw [List.length_eq_zero_iff.1 hl]; rfl
    have hy:yielded ops a.tmps j=none:=by
     unfold yielded
     rw [hd]
     simp only [Option.bind_some]
     cases hx:a.tmps[d]? with
     | none=>rfl
     | some x=>
       simp only [Array.getD_eq_getD_getElem?,hx,Option.getD_some] at hu
       subst hu
       rfl
    simp only [hg,hy,←h]
    cases want <;> rfl
   ·cases h
  ·cases h
theorem iT (hD:iL P D) (h:Lv w0 W btI SI bt S a w) {o:Oper} (hok:eP P o=true) (hs:one D P S o=some S') {K:Act→World→Prop} (hK: ∀ bt' a' w',Lv w0 W btI SI bt' S' a' w'→K a' w'):o.wp P a w K Q:=by
 unfold one at hs
 simp only [Option.bind_eq_some_iff] at hs
 obtain⟨⟨v,S1⟩,h1,h2⟩:=hs
 simp only at h2
 by_cases hf:i9 o=true
 ·obtain⟨dst,op,type,pos,after,guard⟩:=o
  unfold i9 at hf
  split at hf
  ·rename_i f as ts hop
   simp only at hop
   subst hop
   simp only [cQ,Option.bind_eq_some_iff,Option.map_eq_some_iff] at h1
   obtain⟨⟨g,caps⟩,hc,⟨res,out⟩,hr,hi⟩:=h1
   simp only [eP,beq_iff_eq] at hok
   refine iP hD h.inv h.er rfl hok hc hr (fun u w' btn hC hv=> ?_)
   obtain⟨bt',g1,_,g2⟩:=fg h.inv h.er h.fzng hC hv
   rw [hi] at g1 g2
   exact hK _ _ _ ((h.left g1).put g2 h2)
  ·cases hf
 ·obtain⟨u,w',bt',g0,g1,g2⟩:=je h.inv h.er h.fzng hok (by simpa using hf) h1
  have:=hK _ _ _ ((h.left g1).put g2 h2)
  unfold Oper.wp
  rcases g0 with g0 | ⟨g0,rfl⟩
  ·rw [g0,Oper.upon_value]; exact this
  ·rw [g0,Oper.upon_skip]; exact this
end
end Go.Proofs.YtkcgfceffffmoaaGreat.En
namespace Go.Proofs.YtkcgfceffffmoaaGreat.En
open Go Go.RowKit
section
variable {P:Program} {S:St} {D:eI}
end
end Go.Proofs.YtkcgfceffffmoaaGreat.En
namespace Go.Proofs.YtkcgfceffffmoaaGreat.En
open Go Go.RowKit
section
variable {P:Program} {w0 w w':World} {W:Nat→Prop} {btI bt bt':Bt} {SI S S' SV:St} {a a':Act} {D:eI} {Q:Exit→Act→World→Prop} {ops:Array Oper}
structure kr (P:Program) (ops:Array Oper) (B:List (List Nat)):Prop where
 lt: ∀ (j i:Nat),j < ops.size→i∈B.getD j [] →i < j
 edge: ∀ (j i:Nat) (o:Oper),ops[j]? =some o→i∈B.getD j [] → ∃ e∈o.after,Region.binds .any e=true∧(e.on=i∨i∈B.getD e.on [])
 ok: ∀ (j:Nat) (o:Oper),ops[j]? =some o→eP P o=true
 on: ∀ (j:Nat) (o:Oper) (e:Edge),ops[j]? =some o→e∈o.after→Region.binds .any e=true→e.on < j
 st: ∀ (j:Nat) (o:Oper),ops[j]? =some o→dS o=true→o.dst=none∧o.guard=none
 dst: ∀ (i j:Nat) (oi oj:Oper) (d:Tmp),ops[i]? =some oi→ops[j]? =some oj→oi.dst=some d→oj.dst=some d→i=j
 late: ∀ (i j:Nat) (oi oj:Oper),ops[i]? =some oi→ops[j]? =some oj→i≠j→dS oj=true→(dS oi=false∨i < j)→i∈B.getD j [] ∨(dS oi=false∧jJ oi=false)
 look: ∀ (i j:Nat) (oi oj:Oper) (d:Tmp),ops[i]? =some oi→ops[j]? =some oj→oi.dst=some d→d∈oj.looksAt ops→i∈B.getD j [] ∨(dS oj=false∧(i=j∨j∈B.getD i []))
end
end Go.Proofs.YtkcgfceffffmoaaGreat.En
namespace Go.Proofs.YtkcgfceffffmoaaGreat.En
open Go Go.RowKit
section
variable {P:Program} {w0 w:World} {W:Nat→Prop} {bt:Bt} {S:St} {a:Act}
theorem hO: ∀ {l:List Nat} {r:Nat},r∈l→r < fF l
 | [],_,h=>by cases h
 | a::l,r,h=>by
   unfold fF
   rcases List.mem_cons.1 h with rfl | h
   ·omega
   ·have:=hO h
    omega
theorem aH.dropL (hI:aH w0 W bt S w) (L:List Nat):aH w0 W bt (dropL S L) w:=
 hI.less (fun r t h=>by
  split at h
  ·cases h
  ·exact h)
open Classical in
end
end Go.Proofs.YtkcgfceffffmoaaGreat.En
namespace Go.Proofs.YtkcgfceffffmoaaGreat.En
open Go Go.RowKit
section
variable {P:Program} {w0 w wa w':World} {W:Nat→Prop} {btI bt bt0 bt1 bt':Bt} {SI S S0 S1 S':St} {a a':Act} {D:eI} {Q:Exit→Act→World→Prop}
theorem VR.two {bt2:Bt} (hnb:bt2.nb=bt1.nb) (hbb:bt2.bb=bt1.bb) (hA:bt2.A=bt1.A) (hng:bt0.ng≤bt2.ng) (hp: ∀ p:ap,p.r < bt0.ng→0 < bt1.κ p→bt2.β p=bt1.β p∧bt2.κ p=bt1.κ p) {v:AV} {c0:Value} (h0:VR wa bt0 v c0): ∀ {c:Value},VR w' bt1 v c→VR w' bt2 v c:=by
 induction h0 with
 | sc h=>intro c h1; cases h1 with | sc h=>exact .sc h
 | em a=>intro c h1; cases h1 with | em a=>exact .em a
 | ro h=>intro c h1; cases h1 with | ro h=>exact .ro (by rw [hA]; exact h)
 | own q1 q2 q3 q4=>
   intro c h1
   cases h1 with
   | own hp' hc hk ha=>
     rename_i p sz lo len _ _ ad cap
     rcases Nat.eq_zero_or_pos (bt1.κ p) with h0 | h0
     ·exact .own (Nat.lt_of_lt_of_le q1 hng) hc (by omega) (fun h=>absurd h (by omega))
     ·obtain⟨e1,e2⟩:=hp p q1 h0
      exact .own (Nat.lt_of_lt_of_le q1 hng) hc (by rw [e2]; exact hk) (by rw [e1]; exact ha)
 | pro cs hs hb hr ht=>intro c h1; cases h1 with | pro cs hs hb hr ht=>exact .pro cs hs (by rw [hA]; exact hb) hr (fun j x hx=>by rw [hA]; exact ht j x hx)
 | ptrB j hn=>
   intro c h1
   cases h1 with
   | ptrB j hn=>rw [←hbb]; exact .ptrB j (by rw [hnb]; exact hn)
 | ptrT sz i j q1 q2=>
   intro c h1
   cases h1 with
   | ptrT sz i j hp' hk=>
     rename_i p
     obtain⟨e1,e2⟩:=hp p q1 (by omega)
     rw [←e1]
     exact .ptrT sz i j (Nat.lt_of_lt_of_le q1 hng) (by rw [e2]; exact hk)
 | fn f hl h ih=>
   intro c h1
   rename_i caps us0
   cases h1 with
   | fn f hl' h'=>
     rename_i us
     refine .fn f hl' (fun k c u k1 k2=> ?_)
     have hk:k < us0.length:=by
      have:=(List.getElem?_eq_some_iff.1 k1).1
      omega
     exact ih k c _ k1 (List.getElem?_eq_getElem hk) (h' k c u k1 k2)
 | agg hl ho h ih=>
   intro c h1
   rename_i cs us0
   cases h1 with
   | agg hl' ho' h'=>
     refine .agg hl' ho' (fun k c u k1 k2=> ?_)
     have hk:k < us0.length:=by
      have:=(List.getElem?_eq_some_iff.1 k1).1
      omega
     exact ih k c _ k1 (List.getElem?_eq_getElem hk) (h' k c u k1 k2)
 | tup hl h ih=>
   intro c h1
   rename_i cs us0
   cases h1 with
   | tup hl' h'=>
     refine .tup hl' (fun k c u k1 k2=> ?_)
     have hk:k < us0.length:=by
      have:=(List.getElem?_eq_some_iff.1 k1).1
      omega
     exact ih k c _ k1 (List.getElem?_eq_getElem hk) (h' k c u k1 k2)
 | dead u=>intro c _; exact .dead c
end
end Go.Proofs.YtkcgfceffffmoaaGreat.En
namespace Go.Proofs.YtkcgfceffffmoaaGreat.En
open Go Go.RowKit
section
variable {P:Program} {S SV:St} {D:eI}
end
end Go.Proofs.YtkcgfceffffmoaaGreat.En
namespace Go.Proofs.YtkcgfceffffmoaaGreat.En
open Go Go.RowKit
section
variable {P:Program} {S SV:St} {D:eI}
end
end Go.Proofs.YtkcgfceffffmoaaGreat.En
