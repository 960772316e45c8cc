import Derived.Test.YtkcgfceffffmoaaGreatZX2
namespace Go.Proofs.YtkcgfceffffmoaaGreat.En
open Go Go.RowKit
section
variable {P:Program} {w0 w w':World} {W:Nat→Prop} {bt:Bt} {S:St} {a:Act}
theorem Qx (hI:ed w0 W bt S w) (hE:ER w bt S a) (hfz:S.fz≤S.ng) {t ty el:TypeId} (hel:Cx P t=some el) {bav xav v:AV} {bv xv:Value} (hb:VR w bt bav bv) (hx:VR w bt xav xv) {more:List (List T)} {S' S3:St} {fl:Bool}
  (hs:qt S (P.cellsOf el) fl xav=some (more,S')) (h:oK S' bav (P.cellsOf el) more=some (v,S3)) {p:ci} {s lo n:Nat} (hv:v= .own p s lo n) (hby:n*P.bytesOf el≤2 ^ 40) (hn:n≤2 ^ 40) (hpos:0 < P.cellsOf el) (hz: (JA P el).isSome=true):
  ∃ u w' bt',(Builtin.append_ #[t,t] ty #[bv,xv]).run P w= .ok u w'∧jK w0 W bt S a bt' S3 w'∧VR w' bt' v u:=by
 obtain⟨zr,hz⟩:=Option.isSome_iff_exists.1 hz
 obtain⟨zs,h1,h2,_,_⟩:=B7 hz
 obtain⟨i,zv,hi,hzv,rfl,hall⟩:=qD h1
 have hsz:P.cellsOf el=i.size:=by simp [Program.cellsOf,hi]
 have hbz:P.bytesOf el=i.bytes:=by simp [Program.bytesOf,hi]
 obtain⟨src,news,hsrc⟩:=E2 hI hpos hx hs
 have hone: ∀ u∈zv.cells.toList,u.oneCell'=true:=fun u hu=>List.all_eq_true.1 hall u hu
 have look': ∀ q s rs,S'.look q= .sl s rs→S.look q= .sl s rs:=by
  intro q s rs h
  rw [hsrc.gone] at h
  cases src with
  | none=>exact h
  | some q0=>
    simp only at h
    have hne:q.r≠q0.r:=by
     intro he
     unfold St.look at h
     simp [cm,he] at h
    rw [←h]
    exact (AI hne).symm
 have ng':S'.ng=S.ng∧S'.fz=S.fz:=by
  rw [hsrc.gone]
  cases src <;> exact⟨rfl,rfl⟩
 have go: ∀ {rows:List (List T)} {ab:Option Addr} {cap:Nat} {bp:Option ci} {olds:List Value} {S1:St},Bas w bt S' S1 (P.cellsOf el) rows bv ab cap bp olds→v= .own ⟨S.ng,[]⟩ (P.cellsOf el) 0 (rows.length+more.length)→
   S3= { S1 with gh:=cm S1.gh S.ng (some (.sl (P.cellsOf el) (rows++more))),ng:=S.ng+1 } → ∃ u w' bt',(Builtin.append_ #[t,t] ty #[bv,xv]).run P w= .ok u w'∧jK w0 W bt S a bt' S3 w'∧VR w' bt' v u:=by
  intro rows ab cap bp olds S1 hbas hve hSe
  have hnn:n=rows.length+more.length:=by
   rw [hv] at hve
   simp only [AV.own.injEq] at hve
   exact hve.2.2.2
  obtain⟨u,w',b,cap',hr,hap⟩:=Lr (P:=P) (w:=w) (t:=t) (ty:=ty) (e:=el) (i:=i) (z:=zv) (ab:=ab) (len:=rows.length) (cap:=cap) (m:=more.length) (olds:=olds) (news:=news) (x:=xv) (mn hel) hi hzv (by rw [←hsz,←h2]; simp) hone (by omega) hbas.le (by rw [←hsz]; exact hbas.len) (by rw [←hsz]; exact hsrc.len) (by rw [←hsz]; exact hbas.cur)
   (by
     rcases hsrc.val with ⟨h,h'⟩ | h
     ·exact .inl ⟨by rw [h]; rfl,h'⟩
     ·exact .inr h) hsrc.one (by omega) (by rw [←hbz,←hnn]; exact hby)
  rw [←hsz] at hap
  obtain⟨bt',g1,_,g2⟩:=IK hI hE hfz hsrc hbas hap
  rw [hSe,hve]
  refine⟨u,w',bt',?_,g1,g2⟩
  rw [hbas.val]
  exact hr
 cases hb with
 | em ab=>
   simp only [oK,Option.some.injEq,Prod.mk.injEq] at h
   obtain⟨rfl,rfl⟩:=h
   refine go (rows:= []) (ab:=ab) (cap:=0) (bp:=none) (olds:= []) (S1:=S') ⟨rfl,Nat.le_refl _,fun h=>absurd h (by omega),by simp,fun i r hi=>by simp at hi,fun h=>absurd h (by omega),rfl,fun p hp=>(nomatch hp),fun _=>rfl⟩ ?_ ?_
   ·rw [ng'.1]; simp
   ·rw [ng'.1]; rfl
 | own hp hcap hk ha=>
   rename_i q s' lo' len ad cap
   simp only [oK] at h
   split at h
   ·rename_i hc
    obtain⟨rfl,rfl,hfz'⟩:=hc
    simp only [Option.bind_eq_some_iff] at h
    obtain⟨rows,hrows,h⟩:=h
    split at h
    ·cases h
    ·rename_i hlen
     simp only [Option.some.injEq,Prod.mk.injEq] at h
     obtain⟨rfl,rfl⟩:=h
     have hlook':=mo hrows
     have hlook:=look' _ _ _ hlook'
     have htl: (rows.take len).length=len:=by simp; omega
     have hlr:rows.length≤bt.κ q:=(hI.tr _ _ _ hlook).1
     obtain⟨olds,hol,holds,hcur⟩: ∃ olds:List Value,olds.length=len*P.cellsOf el∧(∀ (i:Nat) (r:List T),(rows.take len)[i]? =some r→r.length=P.cellsOf el∧ ∀ (j:Nat) (y:T),r[j]? =some y→ ∃ c,olds[i*P.cellsOf el+j]? =some c∧aas bt (some q) i j y c)∧
       (0 < cap→ ∃ g cur e',ad=some ⟨g,0,none⟩∧w.heap[g]? =some (.cells cur e' (0,0))∧cap*P.cellsOf el≤cur.size∧(∀ (k:Nat) (u:Value),cur[k]? =some u→u.oneCell'=true)∧ ∀ (k:Nat) (u:Value),olds[k]? =some u→cur[k]? =some u):=by
      rcases Nat.eq_zero_or_pos cap with h0 | h0
      ·have hl0:len=0:=by omega
       subst hl0
       exact⟨[],by simp,fun i r hi=>by simp at hi,fun h=>absurd h (by omega)⟩
      ·obtain⟨olds,g1,g2,g3,g4⟩:=B8 hI (lo:=0) (len:=len) hlook (by omega) (by omega)
       obtain⟨_,arr,e,k1,k2,k3,k4⟩:=(hI.tr _ _ _ hlook).2 (by omega)
       refine⟨olds,g1,fun i r hi=> ?_,fun _=>⟨bt.β q,arr,e,by rw [ha h0,Nat.zero_mul],k1,Nat.le_trans (Nat.mul_le_mul_right _ (by omega)) k2,k3,fun k u hk'=> ?_⟩⟩
       ·rw [List.drop_zero] at g4
        obtain⟨m1,m2⟩:=g4 i r hi
        refine⟨m1,fun j y hy=> ?_⟩
        obtain⟨c,m3,m4⟩:=m2 j y hy
        rw [Nat.zero_add] at m4
        exact⟨c,m3,m4⟩
       ·have:=g3 k u hk'
        rw [Go.Proofs.YtkcgfceffffmoaaGreat.En.add_lit,pV k1,Nat.zero_mul,Nat.zero_add] at this
        exact this
     refine go (rows:=rows.take len) (ab:=ad) (cap:=cap) (bp:=some q) (olds:=olds) (S1:=if q.l= [] then { S' with gh:=cm S'.gh q.r none } else S'.setAt q .dd)
      ⟨by rw [htl],by rw [htl]; exact hcap,fun h0=>⟨q,rfl,by rw [ha h0,Nat.zero_mul],by omega⟩,by rw [htl]; exact hol,holds,hcur,rfl,fun p hp=>by
       cases hp
       exact⟨hfz',rows,hlook',by rw [htl]⟩,fun h=>by cases h⟩ ?_ ?_
     ·rw [ng'.1,htl]
     ·rw [ng'.1]
   ·cases h
 | _=>simp [oK] at h
def vp (P:Program) (o:Oper):Bool:=match o.op with
 | .load t _=>decide (0 < P.cellsOf t)
 | .store t _ _=>decide (0 < P.cellsOf t)&&(P.info? t).isSome
 | .indexAddr t _ _=>match Cx P t with | some el=>(P.info? el).isSome | none=>true
 | .slice t _ _ _ _=>match Cx P t with | some el=>(P.info? el).isSome | none=>true
 | .select .. =>false
 | .call { callee:= .value _,args:=as,argTypes:=ts } =>ts.size==as.size
 | .call { callee:= .builtin .append,args:=_,argTypes:=ts } =>match ts.toList with | [t,t'] =>t==t'||(match P.underlying t' with | some (.int _)=>true | _=>false) | _=>true
 | _=>true
theorem SC {D:wj} {o:Oper} {v:AV} (hI:ed w0 W bt S w) (hE:ER w bt S a) (hok:vp P o=true) (hp:tB o=true) (h:aH D P S o=some v):
  ∃ u,(execOp a.eval o).run P w= .ok (.value u) w∧VR w bt v u:=by
 refine Sx hI hE hp (fun t x he=> ?_) (fun t x y he el hel=> ?_) (fun t x lo hi he el hel=> ?_) h
 ·simpa [vp,he] using hok
 ·simp only [vp,he,hel] at hok
  exact Option.isSome_iff_exists.1 hok
 ·simp only [vp,he,hel] at hok
  exact Option.isSome_iff_exists.1 hok
theorem jK.refl (hI:ed w0 W bt S w) (hE:ER w bt S a):jK w0 W bt S a bt S w:=⟨hI,hE,rfl,trivial,Nat.le_refl _,fun _ _=>⟨rfl,rfl⟩,fun _ _ h=>h⟩
theorem aat {v:AV} (h1:v≠ .dead) (h2: ∀ vs,v≠ .tup vs):v.isDead=false:=by
 cases v with
 | dead=>exact absurd rfl h1
 | tup vs=>exact absurd rfl (h2 vs)
 | _=>rfl
theorem aau {D:wj} {o:Oper} {v:AV} {S':St} (hI:ed w0 W bt S w) (hE:ER w bt S a) (hfz:S.fz≤S.ng) (hok:vp P o=true) (hf:DD o=false) (h:j5 D P S o=some (v,S')):
  ∃ u w' bt',((execOp a.eval o).run P w= .ok (.value u) w'∨((execOp a.eval o).run P w= .ok .skip w'∧u=undef))∧jK w0 W bt S a bt' S' w'∧VR w' bt' v u:=by
 obtain⟨dst,op,type,pos,after,guard⟩:=o
 have val: ∀ {v S'},tB ⟨dst,op,type,pos,after,guard⟩=true→(aH D P S ⟨dst,op,type,pos,after,guard⟩).map (fun v=>(v,S))=some (v,S')→
   ∃ u w' bt',((execOp a.eval ⟨dst,op,type,pos,after,guard⟩).run P w= .ok (.value u) w'∨((execOp a.eval ⟨dst,op,type,pos,after,guard⟩).run P w= .ok .skip w'∧u=undef))∧jK w0 W bt S a bt' S' w'∧VR w' bt' v u:=by
  intro v S' hp h
  simp only [Option.map_eq_some_iff,Prod.mk.injEq] at h
  obtain⟨v',h1,rfl,rfl⟩:=h
  obtain⟨u,g1,g2⟩:=SC hI hE hok hp h1
  exact⟨u,w,bt, .inl g1,jK.refl hI hE,g2⟩
 have sc: ∀ {v S'},(∀ cs b,op≠ .select cs b)→(co P S ⟨dst,op,type,pos,after,guard⟩).map (fun v=>(v,S))=some (v,S')→
   ∃ u w' bt',((execOp a.eval ⟨dst,op,type,pos,after,guard⟩).run P w= .ok (.value u) w'∨((execOp a.eval ⟨dst,op,type,pos,after,guard⟩).run P w= .ok .skip w'∧u=undef))∧jK w0 W bt S a bt' S' w'∧VR w' bt' v u:=by
  intro v S' hs h
  simp only [Option.map_eq_some_iff,Prod.mk.injEq] at h
  obtain⟨v',h1,rfl,rfl⟩:=h
  obtain⟨u,g1,g2⟩:=vk hE (fun cs b=>hs cs b) h1
  exact⟨u,w,bt, .inl g1,jK.refl hI hE,g2⟩
 cases op with
 | alloc t=>
   simp only [j5,Option.map_eq_some_iff,Prod.mk.injEq] at h
   obtain⟨zs,hz,rfl,rfl⟩:=h
   have hm:zs.map NZ=zs.map K1:=by
    refine List.map_congr_left fun c hc=> ?_
    obtain⟨i,z,_,_,rfl,hall⟩:=qD hz
    have:=List.all_eq_true.1 hall c hc
    unfold NZ
    split
    ·simp [Value.oneCell'] at this
    ·rfl
   obtain⟨u,w',bt',g1,g2,g3⟩:=Sy hI hE hfz hz
   rw [hm]
   exact⟨u,w',bt', .inl (by simp [execOp,g1]),g2,g3⟩
 | box t x=>
   simp only [j5] at h
   have hv:=cx hE x
   split at h
   ·cases h
   ·cases h
   ·rename_i h1 h2
    simp only [Option.some.injEq,Prod.mk.injEq] at h
    obtain⟨rfl,rfl⟩:=h
    obtain⟨u,w',bt',g1,g2,g3⟩:=Xh (P:=P) (t:=t) hI hE hfz hv (aat h1 h2)
    exact⟨u,w',bt', .inl (by simp [execOp,g1]),g2,g3⟩
 | store t x y=>
   simp only [j5,Option.map_eq_some_iff,Prod.mk.injEq] at h
   obtain⟨S2,h1,rfl,rfl⟩:=h
   simp only [vp,Bool.and_eq_true,decide_eq_true_eq] at hok
   obtain⟨i,hi⟩:=Option.isSome_iff_exists.1 hok.2
   obtain⟨w',bt',g1,g2⟩:=SA hI hE hi hok.1 (cx hE x) (cx hE y) h1
   exact⟨undef,w',bt', .inr ⟨by simp [execOp,g1],rfl⟩,g2, .dead _⟩
 | makeSlice t l c=>
   simp only [j5,Option.bind_eq_some_iff] at h
   obtain⟨el,hel,n,hn,m,hm,z,hz,h⟩:=h
   split at h
   ·rename_i hc
    obtain⟨h0,rfl,h2,h3⟩:=hc
    simp only [Option.some.injEq,Prod.mk.injEq] at h
    obtain⟨rfl,rfl⟩:=h
    obtain⟨kl,hl⟩:=B5 hn (cx hE l)
    obtain⟨kc,hc⟩:=B5 hm (cx hE c)
    obtain⟨u,w',bt',g1,g2,g3⟩:=JB (kl:=kl) (kc:=kc) hI hE hfz hel hz h0 h2 h3
    exact⟨u,w',bt', .inl (by simp [execOp,hl,hc,g1]),g2,g3⟩
   ·cases h
 | buildSlice t len parts=>
   simp only [j5,Option.bind_eq_some_iff] at h
   obtain⟨el,hel,h⟩:=h
   split at h
   ·rename_i hc
    obtain⟨h1,h2,h3,h4,h5⟩:=hc
    split at h
    ·simp only [Option.map_eq_some_iff,Prod.mk.injEq] at h
     obtain⟨rows,h6,rfl,rfl⟩:=h
     obtain⟨u,w',bt',g1,g2,g3⟩:=N4 hI hE hel h1 h2 h3 h4 h5 h6
     exact⟨u,w',bt', .inl (by simp [execOp,g1]),g2,g3⟩
    simp only [Option.map_eq_some_iff,Prod.mk.injEq] at h
    obtain⟨S2,h6,rfl,rfl⟩:=h
    obtain⟨u,w',bt',g1,g2,g3,_⟩:=G5 hI hE hfz hel h1 h2 h3 h4 h5 h6
    exact⟨u,w',bt', .inl (by simp [execOp,g1]),g2,g3⟩
   ·cases h
 | call c=>
   obtain⟨cl,as,ts⟩:=c
   cases cl with
   | value f=>simp [DD] at hf
   | invoke r m=>exact sc (by simp) (by simpa [j5,aH] using h)
   | builtin b=>
     cases b with
     | append=>
       simp only [j5] at h
       split at h
       ·rename_i s x t t' e1 e2
        have e1:as= #[s,x] :=by apply Array.ext'; simpa using e1
        have e2:ts= #[t,t'] :=by apply Array.ext'; simpa using e2
        subst e1 e2
        split at h
        ·rename_i htt
         subst htt
         simp only [Option.bind_eq_some_iff] at h
         obtain⟨el,hel,⟨more,S1⟩,h1,⟨v1,S3⟩,h2,h⟩:=h
         simp only at h2 h
         split at h
         ·rename_i p s' lo n
          split at h
          ·rename_i hc
           obtain⟨k1,k2,k3,k4⟩:=hc
           simp only [Option.some.injEq,Prod.mk.injEq] at h
           obtain⟨rfl,rfl⟩:=h
           obtain⟨u,w',bt',g1,g2,g3⟩:=Qx (ty:=type) hI hE hfz hel (cx hE s) (cx hE x) h1 h2 rfl k1 k2 k3 k4
           exact⟨u,w',bt', .inl (by simp [execOp,resolve,invoke,builtin,g1]),g2,g3⟩
          ·cases h
         ·cases h
        ·rename_i htt
         simp only [Option.bind_eq_some_iff] at h
         obtain⟨el,hel,z,hz,h⟩:=h
         have hi: ∃ kn,P.underlying t'=some (.int kn):=by
          simp only [vp,Bool.or_eq_true,beq_iff_eq,htt,false_or] at hok
          split at hok
          ·rename_i kn hk
           exact⟨kn,hk⟩
          ·cases hok
         obtain⟨kn,hkn⟩:=hi
         have hbs:=cx hE s
         have hbx:=cx hE x
         split at h
         ·rename_i k n e3 e4
          split at h
          ·rename_i hc
           obtain⟨k1,k2,k3,k4⟩:=hc
           simp only [Option.some.injEq,Prod.mk.injEq] at h
           obtain⟨rfl,rfl⟩:=h
           rw [e3] at hbs
           rw [e4] at hbx
           generalize hsu:a.eval s=su at hbs
           generalize hxu:a.eval x=xu at hbx
           cases hbs with
           | em ab=>
             cases hbx with
             | sc hsc=>
               obtain⟨u,w',bt',g1,g2,g3⟩:=N3 (ty:=type) (kq:=k) (ab:=ab) hI hE hfz hel hkn hz k1 k2 k3 k4
               exact⟨u,w',bt', .inl (by simp [execOp,resolve,invoke,builtin,hsu,hxu,g1]),g2,g3⟩
          ·cases h
         ·cases h
       ·cases h
     | len=>exact val rfl (by simpa [j5] using h)
     | cap=>exact val rfl (by simpa [j5] using h)
     | max=>exact val rfl (by simpa [j5] using h)
     | min=>exact val rfl (by simpa [j5] using h)
     | _=>exact sc (by simp) (by simpa [j5,aH] using h)
 | select cs b=>simp [vp] at hok
 | _=>exact val rfl (by simpa [j5] using h)
end
end Go.Proofs.YtkcgfceffffmoaaGreat.En
namespace Go.Proofs.YtkcgfceffffmoaaGreat.En
open Go Go.RowKit
section
variable {P:Program} {w0 w w':World} {W:Nat→Prop} {bt:Bt} {S:St} {a:Act}
theorem Qy (hI:ed w0 W bt S w) {A:Nat→Prop} (hA: ∀ p s rs,S.look p= .sl s rs→0 < bt.κ p→A (bt.β p)): ∀ (n:Nat) (p:ci) (t:T) (u:Value),SizeOf.sizeOf t≤n→HR bt p t u→u.oneCell'=true→(∀ s rs,t= .sl s rs→S.look p= .sl s rs)→RO w A t u:=by
 intro n
 induction n with
 | zero=>intro p t u hn; cases t <;> simp at hn
 | succ n ih=>
   intro p t u hn h ho hl
   cases h with
   | sc h=>exact .sc h
   | dd=>exact .dd ho
   | sl hc hk ha=>
     rename_i sz rows ad cap
     rcases Nat.eq_zero_or_pos rows.length with h0 | h0
     ·have :rows= [] :=List.eq_nil_of_length_eq_zero h0
      subst this
      exact .em _ _ _
     ·have hlook:=hl _ _ rfl
      obtain⟨_,arr,e,g1,g2,g3,g4⟩:=(hI.tr _ _ _ hlook).2 (by omega)
      rw [ha (by omega)]
      have each: ∀ (i:Nat) (r:List T) (j:Nat) (x:T),rows[i]? =some r→r[j]? =some x→ ∃ c,arr[i*sz+j]? =some c∧HR bt (p.sub i j) x c:=by
       intro i r j x hi hj
       exact (g4 i r hi).2 j x hj
      refine .sl (fun i j=>(arr[i*sz+j]?).getD undef) hc rfl (hA _ _ _ hlook (by omega)) (fun i r hi=>(g4 i r hi).1) (fun i r j x hi hj=> ?_) (fun i r j x hi hj=> ?_)
      ·obtain⟨c,k1,_⟩:=each i r j x hi hj
       rw [add_lit,pV g1,Nat.zero_add,k1]
       rfl
      ·obtain⟨c,k1,k2⟩:=each i r j x hi hj
       rw [k1]
       refine ih (p.sub i j) x c ?_ k2 (g3 _ _ k1) (fun s rs hx=> ?_)
       ·have h1:SizeOf.sizeOf x < SizeOf.sizeOf r:=List.sizeOf_lt_of_mem (List.mem_of_getElem? hj)
        have h2:SizeOf.sizeOf r < SizeOf.sizeOf rows:=List.sizeOf_lt_of_mem (List.mem_of_getElem? hi)
        simp at hn
        omega
       ·unfold St.look at hlook ⊢
        split at hlook
        ·rename_i t ht
         show (match S.gh p.r with | some t=>t.go (p.l++ [(i,j)]) | none=> .dd)=_
         rw [ht]
         simp only
         rw [T.go_append,hlook]
         simp only [T.go,T.cell,List.getD_eq_getElem?_getD,hi,Option.getD_some,hj]
         exact hx
        ·cases hlook
theorem Qz (hI:ed w0 W bt S w) {A:Nat→Prop} (hA: ∀ p s rs,S.look p= .sl s rs→0 < bt.κ p→A (bt.β p)) {p:ci} {s lo len:Nat} {rows:List (List T)} {u:Value} (h:VR w bt (.own p s lo len) u) (hr:S.rows p s=some rows) (hle:lo+len≤rows.length):
  RO w A (.sl s ((rows.drop lo).take len)) u:=by
 have hlook:=mo hr
 cases h with
 | own hp hc hk ha=>
   rename_i ad cap
   have hlen: ((rows.drop lo).take len).length=len:=by simp; omega
   rcases Nat.eq_zero_or_pos len with h0 | h0
   ·subst h0
    simp only [List.take_zero]
    exact .em _ _ _
   ·obtain⟨_,arr,e,g1,g2,g3,g4⟩:=(hI.tr _ _ _ hlook).2 (by omega)
    rw [ha (by omega)]
    have sub: ∀ (i:Nat) (r:List T),((rows.drop lo).take len)[i]? =some r→rows[lo+i]? =some r:=by
     intro i r hi
     rw [List.getElem?_take] at hi
     split at hi
     ·rwa [List.getElem?_drop] at hi
     ·cases hi
    have bU:RO w A (.sl s ((rows.drop lo).take len)) (.slice (some ⟨bt.β p,lo*s,none⟩) ((rows.drop lo).take len).length cap):=by
     refine .sl (fun i j=>(arr[(lo+i)*s+j]?).getD undef) (by omega) rfl (hA _ _ _ hlook (by omega)) (fun i r hi=>(g4 _ r (sub i r hi)).1) (fun i r j x hi hj=> ?_) (fun i r j x hi hj=> ?_)
     ·obtain⟨c,k1,_⟩:=(g4 _ r (sub i r hi)).2 j x hj
      rw [add_lit,pV g1,show lo*s+(i*s+j)=(lo+i)*s+j by rw [Nat.add_mul]; omega,k1]
      rfl
     ·obtain⟨c,k1,k2⟩:=(g4 _ r (sub i r hi)).2 j x hj
      rw [k1]
      refine Qy hI hA _ (p.sub (lo+i) j) x c (Nat.le_refl _) k2 (g3 _ _ k1) (fun s' rs hx=> ?_)
      unfold St.look at hlook ⊢
      split at hlook
      ·rename_i t ht
       show (match S.gh p.r with | some t=>t.go (p.l++ [(lo+i,j)]) | none=> .dd)=_
       rw [ht]
       simp only
       rw [T.go_append,hlook]
       simp only [T.go,T.cell,List.getD_eq_getElem?_getD,sub i r hi,Option.getD_some,hj]
       exact hx
      ·cases hlook
    rw [hlen] at bU
    exact bU
def Ls (bt:Bt) (w:World):Bt:= { bt with A:=fun b=>b < w.heap.size }
theorem QA (hI:ed w0 W bt S w):bt.le (Ls bt w):=⟨Nat.le_refl _,Nat.le_refl _,fun b hb=>hI.alt b hb,fun _ _=>rfl,fun _ _=>rfl,fun _ _=>rfl⟩
theorem aav (hI:ed w0 W bt S w) {v:AV} {u:Value} (sz:Nat) (h:VR w bt v u) (ho:u.oneCell'=true):RO w (Ls bt w).A (T.ofAV S sz v) u:=by
 cases v with
 | sc v=>cases h with | sc h=>exact .sc h
 | em=>cases h with | em a=>exact .em _ _ _
 | ro s rows=>cases h with | ro h=>exact h.mono (fun b hb=>hI.alt b hb) (fun _ _=>rfl)
 | own p s lo len=>
   simp only [T.ofAV]
   split
   ·split
    ·exact Qz hI (fun _ _ _ h hk=>hI.βlt h hk) h ‹_› ‹_›
    ·exact .dd ho
   ·exact .dd ho
 | _=>exact .dd ho
theorem B9 (hI:ed w0 W bt S w) {v:AV} {u:Value} (sz:Nat) (h:VR w bt v u):VR w (Ls bt w) (ey S sz v) u:=by
 cases v with
 | sc v=>exact h.mono (QA hI) (fun _ _=>rfl)
 | em=>cases h with | em a=>exact .ro (.em _ _ _)
 | ro s rows=>exact h.mono (QA hI) (fun _ _=>rfl)
 | pro cells=>exact h.mono (QA hI) (fun _ _=>rfl)
 | own p s lo len=>
   simp only [ey]
   split
   ·split
    ·exact .ro (Qz hI (fun _ _ _ h hk=>hI.βlt h hk) h ‹_› ‹_›)
    ·exact .dead _
   ·exact .dead _
 | ptrB b j=>
   simp only [ey]
   split
   ·rename_i cs hb
    cases h with
    | ptrB j hn=>
      obtain⟨_,_,arr,e,g1,g2,g3⟩:=hI.bx _ _ hb
      refine .pro (fun k=>(arr[j+k]?).getD undef) rfl (hI.bblt hb) (fun k x hk=> ?_) (fun k x hk=> ?_)
      ·rw [List.getElem?_map] at hk
       simp only [Option.map_eq_some_iff] at hk
       obtain⟨v,hv,rfl⟩:=hk
       rw [List.getElem?_drop] at hv
       obtain⟨c,k1,k2,k3⟩:=g3 _ _ hv
       rw [add_lit,pV g1,k1]
       rfl
      ·rw [List.getElem?_map] at hk
       simp only [Option.map_eq_some_iff] at hk
       obtain⟨v,hv,rfl⟩:=hk
       rw [List.getElem?_drop] at hv
       obtain⟨c,k1,k2,k3⟩:=g3 _ _ hv
       rw [k1]
       exact aav hI 0 k2 k3
   ·exact .dead _
 | ptrT p s i j=>
   simp only [ey]
   split
   ·rename_i rows hr
    have hlook:=mo hr
    cases h with
    | ptrT s i j hp hk=>
      obtain⟨_,arr,e,g1,g2,g3,g4⟩:=(hI.tr _ _ _ hlook).2 (by omega)
      have each: ∀ (k:Nat) (x:T),((rows.getD i []).drop j)[k]? =some x→ ∃ r c,rows[i]? =some r∧r[j+k]? =some x∧arr[i*s+j+k]? =some c∧HR bt (p.sub i (j+k)) x c:=by
       intro k x hx
       rw [List.getElem?_drop] at hx
       cases hr':rows[i]? with
       | none=>simp [hr'] at hx
       | some r=>
         simp only [List.getD_eq_getElem?_getD,hr',Option.getD_some] at hx
         obtain⟨c,k1,k2⟩:=(g4 i r hr').2 _ _ hx
         exact⟨r,c,rfl,hx,by rw [Nat.add_assoc]; exact k1,k2⟩
      refine .pro (fun k=>(arr[i*s+j+k]?).getD undef) rfl (hI.βlt hlook (by omega)) (fun k x hx=> ?_) (fun k x hx=> ?_)
      ·obtain⟨r,c,k0,k1,k2,k3⟩:=each k x hx
       rw [add_lit,pV g1,k2]
       rfl
      ·obtain⟨r,c,k0,k1,k2,k3⟩:=each k x hx
       rw [k2]
       refine Qy hI (fun _ _ _ h hk=>hI.βlt h hk) _ (p.sub i (j+k)) x c (Nat.le_refl _) k3 (g3 _ _ k2) (fun s' rs hxx=> ?_)
       unfold St.look at hlook ⊢
       split at hlook
       ·rename_i t ht
        show (match S.gh p.r with | some t=>t.go (p.l++ [(i,j+k)]) | none=> .dd)=_
        rw [ht]
        simp only
        rw [T.go_append,hlook]
        simp only [T.go,T.cell,List.getD_eq_getElem?_getD,k0,Option.getD_some,k1]
        exact hxx
       ·cases hlook
   ·exact .dead _
 | _=>exact .dead _
theorem YD (hI:ed w0 W bt S w) {v:AV} {u:Value} (szs:List Nat) (h:VR w bt v u):VR w (Ls bt w) (mm S szs v) u:=by
 cases v with
 | agg cs=>
   simp only [mm]
   split
   ·rename_i hl
    cases h with
    | agg hl' ho hr=>
      rename_i us
      refine .agg (by simp [hl,hl']) ho (fun k c u h1 h2=> ?_)
      rw [List.getElem?_zipWith] at h1
      split at h1
      ·rename_i s c' e1 e2
       simp only [Option.some.injEq] at h1
       subst h1
       exact B9 hI s (hr k c' u e2 h2)
      ·cases h1
   ·exact .dead _
 | fn f caps=>
   cases h with
   | fn f hl hr=>
     rename_i us
     refine .fn f (by simp [hl]) (fun k c u h1 h2=> ?_)
     rw [List.getElem?_map] at h1
     simp only [Option.map_eq_some_iff] at h1
     obtain⟨c',e1,rfl⟩:=h1
     exact B9 hI 0 (hr k c' u e1 h2)
 | em=>cases h with | em a=>exact .em a
 | _=>exact B9 hI (szs.headD 0) h
def w6 (P:Program) (f:FuncId) (args:List AV) (gs:List T) (res:AV) (out:List T):Prop:=
 ∀ (w:World) (W:Nat→Prop) (bt0:Bt) (vals:List Value),ed w W bt0 (tg gs) w→vals.length=args.length→(∀ (k:Nat) (v:AV) (u:Value),args[k]? =some v→vals[k]? =some u→VR w bt0 v u)→
   (callFunc f vals.toArray).run P w= .ok (.enter f vals.toArray) w∧
   Calls P f vals.toArray w fun e w'=> ∃ v btn,e= .returned v∧ed w W btn (tg out) w'∧gs.length≤out.length∧(∀ p:ci,p.r < gs.length→btn.β p=bt0.β p∧btn.κ p=bt0.κ p)∧VR w' btn res v
def sn (P:Program) (D:wj):Prop:= ∀ d f args gs res out,D d f args gs=some (res,out)→w6 P f args gs res out
theorem yA (p:ci) (s:Nat) (rs:List (List T)): (tg []).look p≠ .sl s rs:=by simp [St.look,tg]
theorem WA (w:World) (bt:Bt) (hA: ∀ b,bt.A b→b < w.heap.size):ed w (fun _=>False) { bt with nb:=0,ng:=0 } (tg []) w:=
 { os:=rfl,tape:=rfl,output:=rfl,size:=Nat.le_refl _,keep:=fun _ _ _=>rfl,nb:=rfl,ng:=rfl
   bx:=fun n cells h=>by cases h
   gh:=fun r t h=>by simp [tg] at h
   tr:=fun p s rs h=>absurd h (yA p s rs)
   inj:=fun p q s rs s' rs' h=>absurd h (yA p s rs)
   bbinj:=fun n m cs cs' h=>by cases h
   bbtr:=fun n cs p s rs h=>by cases h
   alt:=hA
   atr:=fun p s rs h=>absurd h (yA p s rs)
   abb:=fun n cs h=>by cases h }
def AV.ro0:AV→Bool
 | .sc _ | .em | .ro _ _ | .pro _ | .dead=>true
 | _=>false
def AV.readOnly:AV→Bool
 | .agg cs=>cs.all AV.ro0
 | .fn _ cs=>cs.all AV.ro0
 | v=>v.ro0
theorem VR.readOnly0 {bt':Bt} (hA:bt'.A=bt.A) {v:AV} {u:Value} (h:VR w bt v u) (hr:v.ro0=true):VR w bt' v u:=by
 cases h with
 | sc h=>exact .sc h
 | em a=>exact .em a
 | ro h=>exact .ro (by rw [hA]; exact h)
 | pro cs hs hb hc ht=>exact .pro cs hs (by rw [hA]; exact hb) hc (fun j x hx=>by rw [hA]; exact ht j x hx)
 | dead u=>exact .dead u
 | _=>simp [AV.ro0] at hr
theorem VR.readOnly {bt':Bt} (hA:bt'.A=bt.A) {v:AV} {u:Value} (h:VR w bt v u) (hr:v.readOnly=true):VR w bt' v u:=by
 cases v with
 | agg cs=>
   cases h with
   | agg hl ho hc=>exact .agg hl ho (fun k c u h1 h2=>(hc k c u h1 h2).readOnly0 hA (List.all_eq_true.1 hr c (List.mem_of_getElem? h1)))
 | fn f cs=>
   cases h with
   | fn f hl hc=>exact .fn f hl (fun k c u h1 h2=>(hc k c u h1 h2).readOnly0 hA (List.all_eq_true.1 hr c (List.mem_of_getElem? h1)))
 | _=>exact h.readOnly0 hA hr
theorem xA (S:St) (sz:Nat) (v:AV): (ey S sz v).ro0=true:=by
 cases v <;> simp only [ey] <;> (try split) <;> (try split) <;> rfl
theorem E3 {v:AV} (h:v.ro0=true):v.readOnly=true:=by
 cases v <;> first | exact h | simp [AV.ro0] at h
theorem SD (S:St) (szs:List Nat) (v:AV): (mm S szs v).readOnly=true:=by
 have one: ∀ {v:AV},v.ro0=true→v.readOnly=true:=by
  intro v h
  cases v <;> first | exact h | simp [AV.ro0] at h
 cases v with
 | agg cs=>
   simp only [mm]
   split
   ·refine List.all_eq_true.2 (fun c hc=> ?_)
    obtain⟨k,hk,rfl⟩:=List.getElem_of_mem hc
    simp only [List.getElem_zipWith]
    exact xA _ _ _
   ·rfl
 | fn f caps=>
   simp only [mm]
   refine List.all_eq_true.2 (fun c hc=> ?_)
   obtain⟨d,_,rfl⟩:=List.mem_map.1 hc
   exact xA _ _ _
 | em=>rfl
 | _=>
   simp only [mm]
   exact one (xA S (szs.headD 0) _)
end
end Go.Proofs.YtkcgfceffffmoaaGreat.En
namespace Go.Proofs.YtkcgfceffffmoaaGreat.En
open Go Go.RowKit
section
variable {P:Program} {w0 w w':World} {W:Nat→Prop} {bt btn:Bt} {S:St} {a:Act}
theorem E4 {out:List T} (hC:ed w (fun _=>False) btn (tg out) w'):Below w.heap.size w w':=
 ⟨hC.os,hC.tape,hC.output,hC.size,fun k hk=>hC.keep k hk (fun h=>h)⟩
theorem SE {k n:Nat} (hng:btn.ng=k) (hn:bt.ng=n) {v:AV} {u:Value} (h:VR w' btn v u):VR w' (bt.add btn k) (rQ n v) u:=by
 have one: ∀ {v u},VR w' btn v u→VR w' (bt.add btn k) (tA n v) u:=by
  intro v u h
  cases h with
  | sc h=>exact .sc h
  | own hp hc hk ha=>
    rename_i p sz lo len ad cap
    have e1: (bt.add btn k).κ ⟨p.r+n,p.l⟩=btn.κ p:=by simp only [Bt.add,hn]; rw [if_pos (by omega),Nat.add_sub_cancel]
    have e2: (bt.add btn k).β ⟨p.r+n,p.l⟩=btn.β p:=by simp only [Bt.add,hn]; rw [if_pos (by omega),Nat.add_sub_cancel]
    exact .own (by show p.r+n < bt.ng+k; omega) hc (by rw [e1]; exact hk) (by rw [e2]; exact ha)
  | _=>exact .dead _
 have two: ∀ {v u},VR w' btn v u→VR w' (bt.add btn k) (qs n v) u:=by
  intro v u h
  cases v with
  | agg cs=>
    cases h with
    | agg hl ho hr=>
      refine .agg (by simpa using hl) ho (fun j c u h1 h2=> ?_)
      rw [List.getElem?_map] at h1
      simp only [Option.map_eq_some_iff] at h1
      obtain⟨c',e1,rfl⟩:=h1
      exact one (hr j c' u e1 h2)
  | _=>exact one h
 cases v with
 | tup vs=>
   cases h with
   | tup hl hr=>
     refine .tup (by simpa using hl) (fun j c u h1 h2=> ?_)
     rw [List.getElem?_map] at h1
     simp only [Option.map_eq_some_iff] at h1
     obtain⟨c',e1,rfl⟩:=h1
     exact two (hr j c' u e1 h2)
 | _=>exact two h
theorem CQ (hI:ed w0 W bt S w) (hE:ER w bt S a) (hfz:S.fz≤S.ng) {res:AV} {out:List T} {u:Value} (hC:ed w (fun _=>False) btn (tg out) w') (hv:VR w' btn res u):
  ∃ bt',jK w0 W bt S a bt' (sj S (res,out)).2 w'∧bt.le bt'∧VR w' bt' (sj S (res,out)).1 u:=by
 have hb:=E4 hC
 have hg:xz w0 W bt S w w':=xz.of_below hb
 have hi:=(hI.change hg).addRoots btn out (fun p s rs h=>by
   obtain⟨h1,h2⟩:=hC.tr p s rs h
   refine⟨h1,fun hk=>⟨?_,(h2 hk).2⟩⟩
   rcases (h2 hk).1 with h | h
   ·exact .inl (Nat.le_trans hI.size h)
   ·exact h.elim) hC.inj (fun p s rs h hk=>by
   have hge:w.heap.size≤btn.β p:=by
    rcases ((hC.tr p s rs h).2 hk).1 with h | h
    ·exact h
    ·exact h.elim
   exact hI.fresh hge)
 have hle:=Bt.le_add bt btn out.length
 refine⟨_,⟨hi,⟨hE.1,fun t=>(hE.2 t).mono hle (hg.A hI)⟩,rfl,trivial,Nat.le_add_right _ _,fun p hp=>⟨hle.β p (by rw [hI.ng]; omega),hle.κ p (by rw [hI.ng]; omega)⟩,fun r hr hn=> ?_⟩,hle,SE hC.ng hI.ng hv⟩
 have : (if S.ng≤r∧r < S.ng+out.length then out[r - S.ng]? else S.gh r)=none:=hn
 rwa [if_neg (by omega)] at this
theorem aaw (hI:ed w0 W bt S w) (hE:ER w bt S a) {ts:Array TypeId} {as:Array Operand} {caps:List AV} {us:List Value} (hts:ts.size=as.size) (hl:us.length=caps.length)
  (hc: ∀ (k:Nat) (c:AV) (u:Value),caps[k]? =some c→us[k]? =some u→VR w bt c u):
  (as.toList.map a.eval++us).length=(args P S ts as caps).length∧ ∀ (k:Nat) (v:AV) (u:Value),(args P S ts as caps)[k]? =some v→(as.toList.map a.eval++us)[k]? =some u→VR w { Ls bt w with nb:=0,ng:=0 } v u:=by
 have l1: (List.zipWith (fun t x=>mm S (th P 9 t) (opd S x)) ts.toList as.toList).length=as.size:=by simp [hts]
 refine⟨by simp [args,hts,hl],fun k v u h1 h2=> ?_⟩
 unfold args at h1
 by_cases hk:k < as.size
 ·rw [List.getElem?_append_left (by omega)] at h1
  rw [List.getElem?_append_left (by simpa using hk),List.getElem?_map] at h2
  rw [List.getElem?_zipWith] at h1
  split at h1
  ·rename_i t x e1 e2
   simp only [Option.some.injEq] at h1
   rw [e2] at h2
   simp only [Option.map_some,Option.some.injEq] at h2
   subst h1 h2
   exact VR.readOnly (bt:=Ls bt w) (bt':= { Ls bt w with nb:=0,ng:=0 }) rfl (YD hI _ (cx hE x)) (SD _ _ _)
  ·cases h1
 ·rw [List.getElem?_append_right (by omega),l1,List.getElem?_map] at h1
  rw [List.getElem?_append_right (by simp; omega)] at h2
  simp only [List.length_map,Array.length_toList] at h2
  simp only [Option.map_eq_some_iff] at h1
  obtain⟨c,e1,rfl⟩:=h1
  exact VR.readOnly (bt:=Ls bt w) (bt':= { Ls bt w with nb:=0,ng:=0 }) rfl (B9 hI 0 (hc _ c u e1 h2)) (E3 (xA _ _ _))
theorem SF {D:wj} (hD:sn P D) (hI:ed w0 W bt S w) (hE:ER w bt S a) {o:Oper} {f:Operand} {as:Array Operand} {ts:Array TypeId} (ho:o.op= .call { callee:= .value f,args:=as,argTypes:=ts }) (hts:ts.size=as.size)
  {g:FuncId} {caps:List AV} (hc:callee S f=some (g,caps)) {res:AV} {out:List T} {d:Option Tmp} (hr:D d g (args P S ts as caps) [] =some (res,out)) {K:Act→World→Prop} {Q:Exit→Act→World→Prop}
  (h: ∀ u w' btn,ed w (fun _=>False) btn (tg out) w'→VR w' btn res u→K (a.put o.dst u) w'):o.wp P a w K Q:=by
 have hf:=cx hE f
 have fin: ∀ us:List Value,a.eval f= .func (.func g) #[] us.toArray→us.length=caps.length→(∀ (k:Nat) (c:AV) (u:Value),caps[k]? =some c→us[k]? =some u→VR w bt c u)→o.wp P a w K Q:=by
  intro us he hl hcc
  obtain⟨h1,h2⟩:=aaw (P:=P) (ts:=ts) (as:=as) hI hE hts hl hcc
  have hI0:ed w (fun _=>False) { Ls bt w with nb:=0,ng:=0 } (tg []) w:=WA w (Ls bt w) (fun _ h=>h)
  obtain⟨g1,g2⟩:=hD d g _ [] res out hr w (fun _=>False) _ (as.toList.map a.eval++us) hI0 h1 h2
  have hrun: (execOp a.eval o).run P w= .ok (.enter g (as.toList.map a.eval++us).toArray) w:=by
   have e:as.map a.eval++us.toArray=(as.toList.map a.eval++us).toArray:=by apply Array.ext'; simp
   obtain⟨dst,op,type,pos,after,guard⟩:=o
   simp only at ho
   subst ho
   simp only [execOp,resolve,he,Deferred.ofValue,Sem.run_bind,Sem.run_pure,Result.andThen_ok,invoke,Array.empty_append]
   rw [e]
   exact g1
  unfold Oper.wp
  rw [hrun,Oper.upon_enter]
  refine Calls.mono g2 (fun e w' hh=> ?_)
  obtain⟨v,btn,rfl,k1,_,_,k2⟩:=hh
  exact h v w' btn k1 k2
 unfold callee at hc
 split at hc
 ·rename_i g' x y he
  simp only [Option.some.injEq,Prod.mk.injEq] at hc
  obtain⟨rfl,rfl⟩:=hc
  rw [he] at hf
  generalize hu:a.eval f=u at hf fin
  cases hf with
  | sc hs=>
    simp only [uU,Bool.and_eq_true,Array.isEmpty_iff] at hs
    obtain⟨rfl,rfl⟩:=hs
    exact fin [] rfl rfl (fun k c u h1 _=>by simp at h1)
 ·rename_i g' cs he
  simp only [Option.some.injEq,Prod.mk.injEq] at hc
  obtain⟨rfl,rfl⟩:=hc
  rw [he] at hf
  generalize hu:a.eval f=u at hf fin
  cases hf with
  | fn f hl hcc=>exact fin _ rfl hl hcc
 ·cases hc
end
end Go.Proofs.YtkcgfceffffmoaaGreat.En
namespace Go.Proofs.YtkcgfceffffmoaaGreat.En
open Go Go.RowKit
section
variable {P:Program} {w0 w w':World} {W:Nat→Prop} {btI bt bt':Bt} {SI S S':St} {a a':Act} {D:wj} {Q:Exit→Act→World→Prop}
structure Lv (w0:World) (W:Nat→Prop) (btI:Bt) (SI:St) (bt:Bt) (S:St) (a:Act) (w:World):Prop where
 inv:ed w0 W bt S w
 er:ER w bt S a
 defers:a.defers= []
 fz:S.fz=SI.fz
 fzng:S.fz≤S.ng
 keep: ∀ p:ci,p.r < SI.fz→bt.β p=btI.β p∧bt.κ p=btI.κ p
 gone: ∀ r,r < SI.fz→S.gh r=none→SI.gh r=none
theorem Lv.left (h:Lv w0 W btI SI bt S a w) (g:jK w0 W bt S a bt' S' w'):Lv w0 W btI SI bt' S' a w':=
 ⟨g.inv,g.er,h.defers,g.fz.trans h.fz,by rw [g.fz]; exact Nat.le_trans h.fzng g.ng,fun p hp=>⟨((g.keep p (by rw [h.fz]; exact hp)).1).trans (h.keep p hp).1,((g.keep p (by rw [h.fz]; exact hp)).2).trans (h.keep p hp).2⟩,
  fun r hr hn=>h.gone r hr (g.gone r (by rw [h.fz]; exact hr) hn)⟩
theorem YE {d:Option Tmp} {v:AV} (h:S.put d v=some S'):S'.bx=S.bx∧S'.gh=S.gh∧S'.nb=S.nb∧S'.ng=S.ng∧S'.fz=S.fz∧S'.nt=S.nt∧S'= { S with env:=S'.env } :=by
 unfold St.put at h
 split at h
 ·split at h
  ·simp only [Option.some.injEq] at h
   subst h
   exact⟨rfl,rfl,rfl,rfl,rfl,rfl,rfl⟩
  ·cases h
 ·simp only [Option.some.injEq] at h
  subst h
  exact⟨rfl,rfl,rfl,rfl,rfl,rfl,rfl⟩
theorem ed.env (h:ed w0 W bt S w) (env:Nat→AV):ed w0 W bt { S with env:=env } w:=
 { os:=h.os,tape:=h.tape,output:=h.output,size:=h.size,keep:=h.keep,nb:=h.nb,ng:=h.ng,bx:=h.bx,gh:=h.gh,tr:=h.tr,inj:=h.inj,bbinj:=h.bbinj,bbtr:=h.bbtr,alt:=h.alt,atr:=h.atr,abb:=h.abb }
theorem Lv.put (h:Lv w0 W btI SI bt S a w) {d:Option Tmp} {v:AV} {u:Value} (hv:VR w bt v u) (hp:S.put d v=some S'):Lv w0 W btI SI bt S' (a.put d u) w:=by
 obtain⟨_,e2,_,e4,e5,_,e7⟩:=YE hp
 refine⟨by rw [e7]; exact h.inv.env _,h.er.put hv hp,?_,e5.trans h.fz,by rw [e5,e4]; exact h.fzng,h.keep,fun r hr hn=>h.gone r hr (by rw [←e2]; exact hn)⟩
 cases d <;> exact h.defers
theorem Lt:VR w bt (.tup []) undef:= .tup (us:= []) rfl (fun _ _ _ h=>by cases h)
theorem oP {ops:Array Oper} {o:Oper} {b:Bool} (hE:ER w bt S a) (h:qC S ops o=some b):Region.wanted o (yielded ops a.tmps)=b:=by
 unfold qC at h
 unfold Region.wanted
 split at h
 ·rename_i hg
  simp only [Option.some.injEq] at h
  simp [hg,h]
 ·rename_i j want hg
  split at h
  ·rename_i d hd
   split at h
   ·rename_i b' he
    simp only [Option.some.injEq] at h
    have hv:=hE.2 d
    rw [he] at hv
    have hu:=hv.inv_sc
    have hy:yielded ops a.tmps j=some b':=by
     unfold yielded
     rw [hd]
     simp only [Option.bind_some]
     cases hx:a.tmps[d]? with
     | none=>
       simp only [Array.getD_eq_getD_getElem?,hx,Option.getD_none] at hu
       cases hu
     | some x=>
       simp only [Array.getD_eq_getD_getElem?,hx,Option.getD_some] at hu
       subst hu
       rfl
    simp only [hg,hy,←h]
    cases b' <;> cases want <;> rfl
   ·rename_i he
    simp only [Option.some.injEq] at h
    have hv:=hE.2 d
    rw [he] at hv
    have hu:a.tmps.getD d undef=undef:=by
     generalize a.tmps.getD d undef=u at hv
     cases hv with
     | tup hl h=>rw [List.length_eq_zero_iff.1 hl]; rfl
    have hy:yielded ops a.tmps j=none:=by
     unfold yielded
     rw [hd]
     simp only [Option.bind_some]
     cases hx:a.tmps[d]? with
     | none=>rfl
     | some x=>
       simp only [Array.getD_eq_getD_getElem?,hx,Option.getD_some] at hu
       subst hu
       rfl
    simp only [hg,hy,←h]
    cases want <;> rfl
   ·cases h
  ·cases h
theorem E5 (hD:sn P D) (h:Lv w0 W btI SI bt S a w) {o:Oper} (hok:vp P o=true) (hs:one D P S o=some S') {K:Act→World→Prop} (hK: ∀ bt' a' w',Lv w0 W btI SI bt' S' a' w'→K a' w'):o.wp P a w K Q:=by
 unfold one at hs
 simp only [Option.bind_eq_some_iff] at hs
 obtain⟨⟨v,S1⟩,h1,h2⟩:=hs
 simp only at h2
 by_cases hf:DD o=true
 ·obtain⟨dst,op,type,pos,after,guard⟩:=o
  unfold DD at hf
  split at hf
  ·rename_i f as ts hop
   simp only at hop
   subst hop
   simp only [j5,Option.bind_eq_some_iff,Option.map_eq_some_iff] at h1
   obtain⟨⟨g,caps⟩,hc,⟨res,out⟩,hr,hi⟩:=h1
   simp only [vp,beq_iff_eq] at hok
   refine SF hD h.inv h.er rfl hok hc hr (fun u w' btn hC hv=> ?_)
   obtain⟨bt',g1,_,g2⟩:=CQ h.inv h.er h.fzng hC hv
   rw [hi] at g1 g2
   exact hK _ _ _ ((h.left g1).put g2 h2)
  ·cases hf
 ·obtain⟨u,w',bt',g0,g1,g2⟩:=aau h.inv h.er h.fzng hok (by simpa using hf) h1
  have:=hK _ _ _ ((h.left g1).put g2 h2)
  unfold Oper.wp
  rcases g0 with g0 | ⟨g0,rfl⟩
  ·rw [g0,Oper.upon_value]; exact this
  ·rw [g0,Oper.upon_skip]; exact this
end
end Go.Proofs.YtkcgfceffffmoaaGreat.En
namespace Go.Proofs.YtkcgfceffffmoaaGreat.En
open Go Go.RowKit
section
variable {P:Program} {S:St} {D:wj}
theorem Lu {o:Oper} {env:Nat→AV} (hs: ∀ cs b,o.op≠ .select cs b) (h: ∀ x∈o.op.operands,opd { S with env:=env } x=opd S x):co P { S with env:=env } o=co P S o:=by
 have e1:o.op.operands.all (fun x=>(yx (opd { S with env:=env } x)).isSome)=o.op.operands.all (fun x=>(yx (opd S x)).isSome):=by
  rw [Bool.eq_iff_iff,Array.all_eq_true_iff_forall_mem,Array.all_eq_true_iff_forall_mem]
  constructor
  ·intro g x hx
   rw [←h x hx]
   exact g x hx
  ·intro g x hx
   rw [h x hx]
   exact g x hx
 have e2:execOp (fun x=>(yx (opd { S with env:=env } x)).getD undef) o=execOp (fun x=>(yx (opd S x)).getD undef) o:=execOp_congr o hs (fun x hx=>by rw [h x hx])
 unfold co
 rw [e1,e2]
theorem Xk (env:Nat→AV) (szs:List Nat) (v:AV):mm { S with env:=env } szs v=mm S szs v:=by cases v <;> rfl
theorem YF (env:Nat→AV) (t:TypeId) (v:AV):load P { S with env:=env } t v=load P S t v:=by cases v <;> rfl
theorem Lw {env:Nat→AV} {ts:Array TypeId} {as:Array Operand} (caps:List AV) (h: ∀ x∈as,opd { S with env:=env } x=opd S x):args P { S with env:=env } ts as caps=args P S ts as caps:=by
 unfold args
 congr 1
 ·apply List.ext_getElem?
  intro k
  rw [List.getElem?_zipWith,List.getElem?_zipWith]
  cases ht:ts.toList[k]? with
  | none=>rfl
  | some t=>
    cases ha:as.toList[k]? with
    | none=>rfl
    | some x=>
      simp only
      rw [Xk,h x (by simpa using List.mem_of_getElem? ha)]
theorem E6 {env:Nat→AV} {f:Operand} (h:opd { S with env:=env } f=opd S f):callee { S with env:=env } f=callee S f:=by
 unfold callee
 rw [h]
theorem SG {o:Oper} {env:Nat→AV} (hok:vp P o=true) (h: ∀ x∈o.op.operands,opd { S with env:=env } x=opd S x):aH D P { S with env:=env } o=aH D P S o:=by
 have hs: ∀ cs b,o.op≠ .select cs b:=by
  intro cs b he
  simp [vp,he] at hok
 have sc:=Lu (P:=P) hs h
 obtain⟨dst,op,type,pos,after,guard⟩:=o
 cases op with
 | move x=>simp only [aH]; rw [h x (by simp [Op.operands])]
 | assign x=>simp only [aH]; rw [h x (by simp [Op.operands])]
 | pick c x y=>simp only [aH]; rw [h c (by simp [Op.operands]),h x (by simp [Op.operands]),h y (by simp [Op.operands])]
 | load t x=>simp only [aH]; rw [h x (by simp [Op.operands]),YF]
 | nilCheck x=>simp only [aH]; rw [h x (by simp [Op.operands])]
 | fieldAddr t x k=>simp only [aH]; rw [h x (by simp [Op.operands])]
 | field t x k=>simp only [aH]; rw [h x (by simp [Op.operands])]
 | indexAddr t x i=>simp only [aH]; rw [h x (by simp [Op.operands]),h i (by simp [Op.operands])]
 | build t parts=>
   simp only [aH]
   have :parts.toList.map (fun x=>(x.1,opd { S with env:=env } x.2))=parts.toList.map (fun x=>(x.1,opd S x.2)):=List.map_congr_left fun x hx=>by
    rw [h x.2 (by simp only [Op.operands,List.mem_toArray]; exact List.mem_map.2 ⟨x,hx,rfl⟩)]
   rw [this]
 | slice t x lo hi mx=>
   cases mx with
   | some m=>simp only [aH]; exact sc
   | none=>
     have hb: ∀ d (y:Option Operand),(∀ z,y=some z→opd { S with env:=env } z=opd S z)→ox { S with env:=env } d y=ox S d y:=by
      intro d y hy
      cases y with
      | none=>rfl
      | some z=>simp only [ox]; rw [hy z rfl]
     have h1: ∀ d,ox { S with env:=env } d lo=ox S d lo:=fun d=>hb d lo (fun z hz=>h z (by simp [Op.operands,hz]))
     have h2: ∀ d,ox { S with env:=env } d hi=ox S d hi:=fun d=>hb d hi (fun z hz=>h z (by simp [Op.operands,hz]))
     simp only [aH]
     rw [h x (by simp [Op.operands])]
     simp only [h1,h2]
 | index t x i=>simp only [aH]; rw [h x (by simp [Op.operands]),h i (by simp [Op.operands]),sc]
 | extract x k=>simp only [aH]; rw [h x (by simp [Op.operands])]
 | makeFunc fn first caps=>
   cases fn with
   | func f=>
     simp only [aH]
     have :caps.toList.map (opd { S with env:=env })=caps.toList.map (opd S):=List.map_congr_left fun x hx=>h x (by simp [Op.operands]; right; simpa using hx)
     rw [this]
   | _=>simp only [aH]; exact sc
 | unOp op t x=>
   cases op with
   | not=>simp only [aH]; rw [h x (by simp [Op.operands])]
   | _=>simp only [aH]; exact sc
 | binOp op t x y t'=>
   have hx:=h x (by simp [Op.operands])
   have hy:=h y (by simp [Op.operands])
   cases op <;> simp only [aH] <;> first | exact sc | rw [hx,hy,sc]
 | call c=>
   obtain⟨cl,as,ts⟩:=c
   cases cl with
   | builtin b=>
     cases b with
     | len=>
       simp only [aH]
       rw [sc]
       split
       ·rename_i x t e1 e2
        have e1:as= #[x] :=by apply Array.ext'; simpa using e1
        subst e1
        rw [h x (by simp [Op.operands,Call.operands])]
       ·rfl
     | cap=>
       simp only [aH]
       rw [sc]
       split
       ·rename_i x t e1 e2
        have e1:as= #[x] :=by apply Array.ext'; simpa using e1
        subst e1
        rw [h x (by simp [Op.operands,Call.operands])]
       ·rfl
     | max=>
       have :as.toList.map (opd { S with env:=env })=as.toList.map (opd S):=List.map_congr_left fun x hx=>h x (by simp [Op.operands,Call.operands]; simpa using hx)
       simp only [aH]
       rw [this,sc]
     | min=>
       have :as.toList.map (opd { S with env:=env })=as.toList.map (opd S):=List.map_congr_left fun x hx=>h x (by simp [Op.operands,Call.operands]; simpa using hx)
       simp only [aH]
       rw [this,sc]
     | _=>simp only [aH]; exact sc
   | value f=>
     simp only [aH]
     rw [E6 (h f (by simp [Op.operands,Call.operands]))]
     congr 1
     funext x
     obtain⟨g,caps⟩:=x
     simp only
     rw [Lw caps (fun x hx=>h x (by simp [Op.operands,Call.operands,hx]))]
   | invoke r m=>simp only [aH]; exact sc
 | _=>simp only [aH]; exact sc
end
end Go.Proofs.YtkcgfceffffmoaaGreat.En
namespace Go.Proofs.YtkcgfceffffmoaaGreat.En
open Go Go.RowKit
section
variable {P:Program} {w0 w w':World} {W:Nat→Prop} {btI bt bt':Bt} {SI S S' SV:St} {a a':Act} {D:wj} {Q:Exit→Act→World→Prop} {ops:Array Oper}
def abP (ops:List Oper) (B:List (List Nat)):Bool:=(List.range ops.length).all fun j=>(B.getD j []).all fun i=>decide (i < j)&&match ops[j]? with
 | some o=>o.after.toList.any fun e=>Region.binds .any e&&(e.on==i||(B.getD e.on []).contains i)
 | none=>false
def Lx (all:Array Oper) (B:List (List Nat)) (i j:Nat) (oi oj:Oper):Bool:=
 (i==j||((oi.dst.isNone||oi.dst != oj.dst)&&(!(aA oj&&(!aA oi||decide (i < j)))||(B.getD j []).contains i||(!aA oi&& !sk oi))))&&
 (match oi.dst with | some d=> !(oj.looksAt all).contains d||(B.getD j []).contains i||(!aA oj&&(i==j||(B.getD i []).contains j)) | none=>true)
def G6 (P:Program) (all:Array Oper):Bool:=
 let ops:=all.toList
 let B:=jb ops
 abP ops B&&(List.range ops.length).all fun j=>match ops[j]? with
  | none=>false
  | some oj=>vp P oj&&(oj.after.toList.all fun e=> !Region.binds .any e||decide (e.on < j))&&(!aA oj||(oj.dst.isNone&&oj.guard.isNone))&&
    (List.range ops.length).all fun i=>match ops[i]? with | none=>false | some oi=>Lx all B i j oi oj
structure acd (P:Program) (ops:Array Oper) (B:List (List Nat)):Prop where
 lt: ∀ (j i:Nat),j < ops.size→i∈B.getD j [] →i < j
 edge: ∀ (j i:Nat) (o:Oper),ops[j]? =some o→i∈B.getD j [] → ∃ e∈o.after,Region.binds .any e=true∧(e.on=i∨i∈B.getD e.on [])
 ok: ∀ (j:Nat) (o:Oper),ops[j]? =some o→vp P o=true
 on: ∀ (j:Nat) (o:Oper) (e:Edge),ops[j]? =some o→e∈o.after→Region.binds .any e=true→e.on < j
 st: ∀ (j:Nat) (o:Oper),ops[j]? =some o→aA o=true→o.dst=none∧o.guard=none
 dst: ∀ (i j:Nat) (oi oj:Oper) (d:Tmp),ops[i]? =some oi→ops[j]? =some oj→oi.dst=some d→oj.dst=some d→i=j
 late: ∀ (i j:Nat) (oi oj:Oper),ops[i]? =some oi→ops[j]? =some oj→i≠j→aA oj=true→(aA oi=false∨i < j)→i∈B.getD j [] ∨(aA oi=false∧sk oi=false)
 look: ∀ (i j:Nat) (oi oj:Oper) (d:Tmp),ops[i]? =some oi→ops[j]? =some oj→oi.dst=some d→d∈oj.looksAt ops→i∈B.getD j [] ∨(aA oj=false∧(i=j∨j∈B.getD i []))
theorem SH (h:G6 P ops=true):acd P ops (jb ops.toList):=by
 unfold G6 at h
 simp only [Bool.and_eq_true] at h
 obtain⟨h1,h2⟩:=h
 have lst: ∀ (j:Nat) (o:Oper),ops[j]? =some o→j < ops.toList.length∧ops.toList[j]? =some o:=by
  intro j o ho
  refine⟨?_,by simpa using ho⟩
  have:=(Array.getElem?_eq_some_iff.1 ho).1
  simpa using this
 have h3: ∀ (j:Nat) (oj:Oper),ops[j]? =some oj→(vp P oj=true∧(oj.after.toList.all fun e=> !Region.binds .any e||decide (e.on < j))=true)∧(!aA oj||(oj.dst.isNone&&oj.guard.isNone))=true∧
   ∀ (i:Nat) (oi:Oper),ops[i]? =some oi→Lx ops (jb ops.toList) i j oi oj=true:=by
  intro j oj hj
  obtain⟨l1,l2⟩:=lst j oj hj
  have:=List.all_eq_true.1 h2 j (List.mem_range.2 l1)
  simp only [l2,Bool.and_eq_true] at this
  refine⟨this.1.1,this.1.2,fun i oi hi=> ?_⟩
  obtain⟨m1,m2⟩:=lst i oi hi
  have:=List.all_eq_true.1 this.2 i (List.mem_range.2 m1)
  simpa only [m2] using this
 have h4: ∀ (j i:Nat),j < ops.size→i∈(jb ops.toList).getD j [] →i < j∧ ∀ o,ops[j]? =some o→ ∃ e∈o.after,Region.binds .any e=true∧(e.on=i∨i∈(jb ops.toList).getD e.on []):=by
  intro j i hj hi
  unfold abP at h1
  have:=List.all_eq_true.1 (List.all_eq_true.1 h1 j (List.mem_range.2 (by simpa using hj))) i hi
  simp only [Bool.and_eq_true,decide_eq_true_eq] at this
  refine⟨this.1,fun o ho=> ?_⟩
  have h5:=this.2
  rw [(lst j o ho).2] at h5
  simp only [List.any_eq_true,Bool.and_eq_true,Bool.or_eq_true,beq_iff_eq,List.contains_iff_mem] at h5
  obtain⟨e,he,hb,hc⟩:=h5
  exact⟨e,by simpa using he,hb,hc⟩
 refine⟨fun j i hj hi=>(h4 j i hj hi).1,fun j i o ho hi=>(h4 j i (Array.getElem?_eq_some_iff.1 ho).1 hi).2 o ho,fun j o ho=>(h3 j o ho).1.1,fun j o e ho he hb=> ?_,fun j o ho hs=> ?_,fun i j oi oj d hi hj hdi hdj=> ?_,fun i j oi oj hi hj hne hs hor=> ?_,fun i j oi oj d hi hj hd hl=> ?_⟩
 ·have:=List.all_eq_true.1 (h3 j o ho).1.2 e (by simpa using he)
  simpa [hb] using this
 ·have:=(h3 j o ho).2.1
  simp only [hs,Bool.not_true,Bool.false_or,Bool.and_eq_true,Option.isNone_iff_eq_none] at this
  exact this
 ·have:=(h3 j oj hj).2.2 i oi hi
  unfold Lx at this
  simp only [Bool.and_eq_true,Bool.or_eq_true,beq_iff_eq] at this
  rcases this.1 with h | h
  ·exact h
  ·have:=h.1
   rw [hdi,hdj] at this
   simp at this
 ·have:=(h3 j oj hj).2.2 i oi hi
  unfold Lx at this
  simp only [Bool.and_eq_true,Bool.or_eq_true,beq_iff_eq] at this
  rcases this.1 with h | h
  ·exact absurd h hne
  ·rcases h.2 with h' | h'
   ·rcases h' with h' | h'
    ·exfalso
     rcases hor with hor | hor <;> simp [hs,hor] at h'
    ·exact .inl (List.contains_iff_mem.1 h')
   ·simp only [Bool.not_eq_true'] at h'
    exact .inr h'
 ·have:=(h3 j oj hj).2.2 i oi hi
  unfold Lx at this
  simp only [Bool.and_eq_true] at this
  have h':=this.2
  rw [hd] at h'
  simp only [Bool.or_eq_true,Bool.and_eq_true,Bool.not_eq_true',List.contains_iff_mem,beq_iff_eq] at h'
  rcases h' with (h' | h') | h'
  ·rw [List.contains_iff_mem.2 hl] at h'
   cases h'
  ·exact .inl h'
  ·exact .inr h'
end
end Go.Proofs.YtkcgfceffffmoaaGreat.En
namespace Go.Proofs.YtkcgfceffffmoaaGreat.En
open Go Go.RowKit
section
variable {P:Program} {w0 w:World} {W:Nat→Prop} {bt:Bt} {S:St} {a:Act}
theorem K2: ∀ {l:List Nat},ndB l=true↔l.Nodup
 | [] =>by simp [ndB]
 | a::l=>by
   unfold ndB
   rw [Bool.and_eq_true,K2 (l:=l),List.nodup_cons]
   simp
theorem QB: ∀ {l:List Nat} {r:Nat},r∈l→r < Qp l
 | [],_,h=>by cases h
 | a::l,r,h=>by
   unfold Qp
   rcases List.mem_cons.1 h with rfl | h
   ·omega
   ·have:=QB h
    omega
theorem DG {l:List Nat} {r:Nat}:r∈qu l↔r∈l:=by
 unfold qu
 rw [List.mem_filter,List.mem_range]
 constructor
 ·rintro⟨_,h⟩
  simpa using h
 ·intro h
  exact⟨QB h,by simpa using h⟩
theorem rm (l:List Nat) (r:Nat): (qu l).contains r=l.contains r:=by
 rw [Bool.eq_iff_iff,List.contains_iff_mem,List.contains_iff_mem,DG]
theorem yB {s:Nat} {v:AV} {x:T} {l:List Nat} (h:oL S s v=some (x,l)):
  (l= [] ∧ ∀ (w:World) (bt:Bt) (c:Value),VR w bt v c→CR x c)∨ ∃ q len rows,v= .own ⟨q,[]⟩ s 0 len∧S.fz≤q∧S.look ⟨q,[]⟩= .sl s rows∧len≤rows.length∧x= .sl s (rows.take len)∧l= [q] :=by
 unfold oL at h
 split at h
 ·simp only [Option.some.injEq,Prod.mk.injEq] at h
  obtain⟨rfl,rfl⟩:=h
  exact .inl ⟨rfl,fun w bt c hv=>CR.ofSc hv⟩
 ·split at h
  ·simp only [Option.some.injEq,Prod.mk.injEq] at h
   obtain⟨rfl,rfl⟩:=h
   refine .inl ⟨rfl,fun w bt c hv=> ?_⟩
   cases hv with
   | em a=>exact .em _ a
  ·rename_i q s' lo len
   split at h
   ·rename_i hc
    obtain⟨h1,rfl,rfl,h4⟩:=hc
    simp only [Option.bind_eq_some_iff] at h
    obtain⟨rows,hr,h⟩:=h
    split at h
    ·rename_i hle
     simp only [Option.some.injEq,Prod.mk.injEq] at h
     obtain⟨rfl,rfl⟩:=h
     obtain⟨qr,ql⟩:=q
     simp only at h1
     subst h1
     exact .inr ⟨qr,len,rows,rfl,h4,mo hr,hle,rfl,rfl⟩
    ·cases h
   ·cases h
  ·cases h
theorem IL: ∀ {ss:List Nat} {vs:List AV} {xs:List T} {L:List Nat},kg S ss vs=some (xs,L)→xs.length=vs.length∧ss.length=vs.length∧
  (∀ (j:Nat) (v:AV),vs[j]? =some v→ ∃ s x l,ss[j]? =some s∧xs[j]? =some x∧oL S s v=some (x,l)∧ ∀ q∈l,q∈L)∧
  (L.Nodup→ ∀ (j j':Nat) (v v':AV) (s s':Nat) (x x':T) (q:Nat),vs[j]? =some v→vs[j']? =some v'→ss[j]? =some s→ss[j']? =some s'→oL S s v=some (x,[q])→oL S s' v'=some (x',[q])→j=j')
 | [],[],xs,L,h=>by
   simp only [kg,Option.some.injEq,Prod.mk.injEq] at h
   obtain⟨rfl,rfl⟩:=h
   exact⟨rfl,rfl,fun j v h=>by simp at h,fun _ j j' v v' s s' x x' q h=>by simp at h⟩
 | s::ss,v::vs,xs,L,h=>by
   simp only [kg,Option.bind_eq_some_iff,Option.map_eq_some_iff,Prod.exists,Prod.mk.injEq] at h
   obtain⟨x,l,h1,xs',L',h2,rfl,rfl⟩:=h
   obtain⟨e1,e2,e3,e4⟩:=IL h2
   refine⟨by simp [e1],by simp [e2],fun j u hj=> ?_,fun hnd j j' u u' t t' y y' q g1 g2 g3 g4 g5 g6=> ?_⟩
   ·cases j with
    | zero=>
      simp only [List.getElem?_cons_zero,Option.some.injEq] at hj
      subst hj
      exact⟨s,x,l,rfl,rfl,h1,fun q hq=>List.mem_append_left _ hq⟩
    | succ j=>
      obtain⟨t,y,l',k1,k2,k3,k4⟩:=e3 j u (by simpa using hj)
      exact⟨t,y,l',by simpa using k1,by simpa using k2,k3,fun q hq=>List.mem_append_right _ (k4 q hq)⟩
   ·rw [List.nodup_append] at hnd
    obtain⟨n1,n2,n3⟩:=hnd
    have zero: ∀ (u:AV) (t:Nat) (y:T),(v::vs)[0]? =some u→(s::ss)[0]? =some t→oL S t u=some (y,[q])→q∈l:=by
     intro u t y k1 k2 k3
     simp only [List.getElem?_cons_zero,Option.some.injEq] at k1 k2
     subst k1 k2
     rw [h1] at k3
     simp only [Option.some.injEq,Prod.mk.injEq] at k3
     rw [k3.2]
     exact List.mem_singleton.2 rfl
    have succ: ∀ (i:Nat) (u:AV) (t:Nat) (y:T),vs[i]? =some u→ss[i]? =some t→oL S t u=some (y,[q])→q∈L':=by
     intro i u t y k1 k2 k3
     obtain⟨t',y',l',m1,m2,m3,m4⟩:=e3 i u k1
     rw [k2] at m1
     simp only [Option.some.injEq] at m1
     subst m1
     rw [k3] at m3
     simp only [Option.some.injEq,Prod.mk.injEq] at m3
     exact m4 q (by rw [←m3.2]; exact List.mem_singleton.2 rfl)
    cases j with
    | zero=>
      cases j' with
      | zero=>rfl
      | succ j'=>exact absurd rfl (n3 q (zero u t y g1 g3 g5) q (succ j' u' t' y' (by simpa using g2) (by simpa using g4) g6))
    | succ j=>
      cases j' with
      | zero=>exact absurd rfl (n3 q (zero u' t' y' g2 g4 g6) q (succ j u t y (by simpa using g1) (by simpa using g3) g5))
      | succ j'=>rw [e4 n2 j j' u u' t t' y y' q (by simpa using g1) (by simpa using g2) (by simpa using g3) (by simpa using g4) g5 g6]
 | [],_::_,_,_,h=>by simp [kg] at h
 | _::_,[],_,_,h=>by simp [kg] at h
def mp (S:St) (ss:List Nat) (vss:List (List AV)) (i j q:Nat):Prop:= ∃ vs v s x,vss[i]? =some vs∧vs[j]? =some v∧ss[j]? =some s∧oL S s v=some (x,[q])
theorem IM {ss:List Nat}: ∀ {vss:List (List AV)} {rows:List (List T)} {L:List Nat},gY S ss vss=some (rows,L)→rows.length=vss.length∧
  (∀ (i:Nat) (vs:List AV),vss[i]? =some vs→ ∃ r,rows[i]? =some r∧r.length=vs.length∧ ∀ (j:Nat) (v:AV),vs[j]? =some v→ ∃ s x l,ss[j]? =some s∧r[j]? =some x∧oL S s v=some (x,l)∧ ∀ q∈l,q∈L)∧
  (L.Nodup→ ∀ (i i' j j' q:Nat),mp S ss vss i j q→mp S ss vss i' j' q→i=i'∧j=j')
 | [],rows,L,h=>by
   simp only [gY,Option.some.injEq,Prod.mk.injEq] at h
   obtain⟨rfl,rfl⟩:=h
   exact⟨rfl,fun i vs h=>by simp at h,fun _ i i' j j' q ⟨vs,v,s,x,h,_⟩=>by simp at h⟩
 | vs::vss,rows,L,h=>by
   simp only [gY,Option.bind_eq_some_iff,Option.map_eq_some_iff,Prod.exists,Prod.mk.injEq] at h
   obtain⟨r,l,h1,rs,L',h2,rfl,rfl⟩:=h
   obtain⟨e1,e2,e3⟩:=IM h2
   obtain⟨f1,f2,f3,f4⟩:=IL h1
   refine⟨by simp [e1],fun i us hi=> ?_,fun hnd i i' j j' q g1 g2=> ?_⟩
   ·cases i with
    | zero=>
      simp only [List.getElem?_cons_zero,Option.some.injEq] at hi
      subst hi
      refine⟨r,rfl,f1,fun j v hj=> ?_⟩
      obtain⟨s,x,l',k1,k2,k3,k4⟩:=f3 j v hj
      exact⟨s,x,l',k1,k2,k3,fun q hq=>List.mem_append_left _ (k4 q hq)⟩
    | succ i=>
      obtain⟨r',k1,k2,k3⟩:=e2 i us (by simpa using hi)
      refine⟨r',by simpa using k1,k2,fun j v hj=> ?_⟩
      obtain⟨s,x,l',m1,m2,m3,m4⟩:=k3 j v hj
      exact⟨s,x,l',m1,m2,m3,fun q hq=>List.mem_append_right _ (m4 q hq)⟩
   ·rw [List.nodup_append] at hnd
    obtain⟨n1,n2,n3⟩:=hnd
    have zero: ∀ (j:Nat),mp S ss (vs::vss) 0 j q→q∈l:=by
     rintro j ⟨us,v,s,x,k1,k2,k3,k4⟩
     simp only [List.getElem?_cons_zero,Option.some.injEq] at k1
     subst k1
     obtain⟨s',x',l',m1,m2,m3,m4⟩:=f3 j v k2
     rw [k3] at m1
     simp only [Option.some.injEq] at m1
     subst m1
     rw [k4] at m3
     simp only [Option.some.injEq,Prod.mk.injEq] at m3
     exact m4 q (by rw [←m3.2]; exact List.mem_singleton.2 rfl)
    have vo: ∀ (i j:Nat),mp S ss (vs::vss) (i+1) j q→mp S ss vss i j q:=by
     rintro i j ⟨us,v,s,x,k1,k2,k3,k4⟩
     exact⟨us,v,s,x,by simpa using k1,k2,k3,k4⟩
    have succ: ∀ (i j:Nat),mp S ss vss i j q→q∈L':=by
     rintro i j ⟨us,v,s,x,k1,k2,k3,k4⟩
     obtain⟨r',m1,m2,m3⟩:=e2 i us k1
     obtain⟨s',x',l',p1,p2,p3,p4⟩:=m3 j v k2
     rw [k3] at p1
     simp only [Option.some.injEq] at p1
     subst p1
     rw [k4] at p3
     simp only [Option.some.injEq,Prod.mk.injEq] at p3
     exact p4 q (by rw [←p3.2]; exact List.mem_singleton.2 rfl)
    cases i with
    | zero=>
      cases i' with
      | zero=>
        obtain⟨us,v,s,x,k1,k2,k3,k4⟩:=g1
        obtain⟨us',v',s',x',k1',k2',k3',k4'⟩:=g2
        simp only [List.getElem?_cons_zero,Option.some.injEq] at k1 k1'
        subst k1 k1'
        exact⟨rfl,f4 n1 j j' v v' s s' x x' q k2 k2' k3 k3' k4 k4'⟩
      | succ i'=>exact absurd rfl (n3 q (zero j g1) q (succ i' j' (vo i' j' g2)))
    | succ i=>
      cases i' with
      | zero=>exact absurd rfl (n3 q (zero j' g2) q (succ i j (vo i j g1)))
      | succ i'=>
        obtain⟨h1,h2⟩:=e3 n2 i i' j j' q (vo i j g1) (vo i' j' g2)
        exact⟨by rw [h1],h2⟩
theorem IP: ∀ {ss:List Nat} {vs:List AV} {xs:List T} {L:List Nat},kg S ss vs=some (xs,L)→ ∀ q∈L,S.fz≤q∧ ∃ v∈vs,∃ s len,v= .own ⟨q,[]⟩ s 0 len
 | [],[],xs,L,h=>by
   simp only [kg,Option.some.injEq,Prod.mk.injEq] at h
   obtain⟨rfl,rfl⟩:=h
   intro q hq
   cases hq
 | s::ss,v::vs,xs,L,h=>by
   simp only [kg,Option.bind_eq_some_iff,Option.map_eq_some_iff,Prod.exists,Prod.mk.injEq] at h
   obtain⟨x,l,h1,xs',L',h2,rfl,rfl⟩:=h
   intro q hq
   rcases List.mem_append.1 hq with hq | hq
   ·rcases yB h1 with ⟨rfl,_⟩ | ⟨q',len,rows,e1,e2,_,_,_,rfl⟩
    ·cases hq
    ·rw [List.mem_singleton.1 hq]
     exact⟨e2,v,List.mem_cons_self,s,len,e1⟩
   ·obtain⟨g1,u,g2,g3⟩:=IP h2 q hq
    exact⟨g1,u,List.mem_cons_of_mem _ g2,g3⟩
 | [],_::_,_,_,h=>by simp [kg] at h
 | _::_,[],_,_,h=>by simp [kg] at h
theorem AK {ss:List Nat}: ∀ {vss:List (List AV)} {rows:List (List T)} {L:List Nat},gY S ss vss=some (rows,L)→ ∀ q∈L,S.fz≤q∧ ∃ vs∈vss,∃ v∈vs,∃ s len,v= .own ⟨q,[]⟩ s 0 len
 | [],rows,L,h=>by
   simp only [gY,Option.some.injEq,Prod.mk.injEq] at h
   obtain⟨rfl,rfl⟩:=h
   intro q hq
   cases hq
 | vs::vss,rows,L,h=>by
   simp only [gY,Option.bind_eq_some_iff,Option.map_eq_some_iff,Prod.exists,Prod.mk.injEq] at h
   obtain⟨r,l,h1,rs,L',h2,rfl,rfl⟩:=h
   intro q hq
   rcases List.mem_append.1 hq with hq | hq
   ·obtain⟨g1,g2⟩:=IP h1 q hq
    exact⟨g1,vs,List.mem_cons_self,g2⟩
   ·obtain⟨g1,us,g2,g3⟩:=AK h2 q hq
    exact⟨g1,us,List.mem_cons_of_mem _ g2,g3⟩
theorem DH {L:List Nat} {p:ci} {s:Nat} {rs:List (List T)} (h: (dropL S L).look p= .sl s rs):p.r∉L∧S.look p= .sl s rs:=by
 unfold St.look dropL at h
 simp only at h
 by_cases hp:L.contains p.r=true
 ·rw [if_pos hp] at h
  cases h
 ·rw [if_neg hp] at h
  exact⟨by simpa using hp,h⟩
theorem ed.dropL (hI:ed w0 W bt S w) (L:List Nat):ed w0 W bt (dropL S L) w:=
 hI.less (fun r t h=>by
  split at h
  ·cases h
  ·exact h)
open Classical in
noncomputable def CS (bt:Bt) (S:St) (ss:List Nat) (vss:List (List AV)) (b n:Nat):Bt:= { bt with
 β:=fun p=>match p.l with | [] =>b | (i,j)::l=>if h: ∃ q,mp S ss vss i j q then bt.β ⟨Classical.choose h,l⟩ else 0
 κ:=fun p=>match p.l with | [] =>n | (i,j)::l=>if h: ∃ q,mp S ss vss i j q then bt.κ ⟨Classical.choose h,l⟩ else 0 }
theorem mp.uniq {ss:List Nat} {vss:List (List AV)} {i j q q':Nat} (h:mp S ss vss i j q) (h':mp S ss vss i j q'):q=q':=by
 obtain⟨us,v,s,x,k1,k2,k3,k4⟩:=h
 obtain⟨us',v',s',x',k1',k2',k3',k4'⟩:=h'
 rw [k1] at k1'
 cases k1'
 rw [k2] at k2'
 cases k2'
 rw [k3] at k3'
 cases k3'
 rw [k4] at k4'
 simp only [Option.some.injEq,Prod.mk.injEq,List.cons.injEq,and_true] at k4'
 exact k4'.2
theorem E7 {ss:List Nat} {vss:List (List AV)} {b n i j q:Nat} (h:mp S ss vss i j q) (r:Nat) (l:List (Nat×Nat)): (CS bt S ss vss b n).β ⟨r,(i,j)::l⟩=bt.β ⟨q,l⟩∧(CS bt S ss vss b n).κ ⟨r,(i,j)::l⟩=bt.κ ⟨q,l⟩:=by
 have hx: ∃ q,mp S ss vss i j q:=⟨q,h⟩
 have e:Classical.choose hx=q:=(Classical.choose_spec hx).uniq h
 unfold CS
 simp only
 rw [dif_pos hx,dif_pos hx,e]
 exact⟨rfl,rfl⟩
theorem YG {ss:List Nat} {vss:List (List AV)} {b n i j:Nat} (h: ∀ q,¬ mp S ss vss i j q) (r:Nat) (l:List (Nat×Nat)): (CS bt S ss vss b n).κ ⟨r,(i,j)::l⟩=0:=by
 unfold CS
 simp only
 rw [dif_neg (fun ⟨q,hq⟩=>h q hq)]
theorem QC (hI:ed w0 W bt S w) (hE:ER w bt S a) (hfz:S.fz≤S.ng) {t el:TypeId} {len:Nat} {parts:Array (Nat×Operand)} {rows:List (List T)} {L:List Nat} (hel:Cx P t=some el) (h20:len*P.cellsOf el≤2 ^ 20)
  (hix:parts.toList.map (·.1)=List.range len) (hpos:0 < P.cellsOf el) (hz: (G0 P el).isSome=true) (hall:parts.toList.all (fun x=>(opd S x.2).cells.length=P.cellsOf el&& !(opd S x.2).isDead)=true)
  (hp:gY S (th P 9 el) (parts.toList.map fun x=>(opd S x.2).cells)=some (rows,L)) (hnd:ndB L=true):
  ∃ u w' bt',(Instr.buildSlice t len (parts.map fun x=>(x.1,a.eval x.2))).run P w= .ok u w'∧jK w0 W bt S a bt' (S.make ⟨S.ng,[.sl (P.cellsOf el) rows],qu L⟩) w'∧bt.le bt'∧VR w' bt' (.own ⟨S.ng,[]⟩ (P.cellsOf el) 0 len) u:=by
 obtain⟨cs,hrun,hcs,hcell,hone⟩:=vn (a:=a) hE hel h20 hix hpos hz hall
 obtain⟨p1,p2,p3⟩:=IM hp
 have p3:=p3 (K2.1 hnd)
 have hpl:parts.toList.length=len:=by
  have:=congrArg List.length hix
  simpa using this
 have hrl:rows.length=len:=by rw [p1,List.length_map,hpl]
 generalize hvss: (parts.toList.map fun x=>(opd S x.2).cells)=vss at*
 have hparts: ∀ (i:Nat) (vs:List AV),vss[i]? =some vs→ ∃ x,parts.toList[i]? =some x∧vs=(opd S x.2).cells∧vs.length=P.cellsOf el:=by
  intro i vs hi
  rw [←hvss,List.getElem?_map] at hi
  simp only [Option.map_eq_some_iff] at hi
  obtain⟨x,hx,rfl⟩:=hi
  have:=List.all_eq_true.1 hall x (List.mem_of_getElem? hx)
  simp only [Bool.and_eq_true,decide_eq_true_eq] at this
  exact⟨x,hx,rfl,this.1⟩
 have cellAt: ∀ (i j:Nat) (r:List T) (x:T),rows[i]? =some r→r[j]? =some x→ ∃ vs v s l c,vss[i]? =some vs∧vs[j]? =some v∧(th P 9 el)[j]? =some s∧oL S s v=some (x,l)∧(∀ q∈l,q∈L)∧r.length=P.cellsOf el∧cs[i*P.cellsOf el+j]? =some c∧VR w bt v c:=by
  intro i j r x hi hj
  have hil:i < vss.length:=by rw [←p1]; exact (List.getElem?_eq_some_iff.1 hi).1
  obtain⟨r',k1,k2,k3⟩:=p2 i _ (List.getElem?_eq_getElem hil)
  rw [hi] at k1
  cases k1
  have hjl:j < vss[i].length:=by rw [←k2]; exact (List.getElem?_eq_some_iff.1 hj).1
  obtain⟨s,x',l,m1,m2,m3,m4⟩:=k3 j _ (List.getElem?_eq_getElem hjl)
  rw [hj] at m2
  cases m2
  obtain⟨y,hy,e1,e2⟩:=hparts i _ (List.getElem?_eq_getElem hil)
  obtain⟨c,q1,q2,_⟩:=hcell i y j vss[i][j] hy (by rw [←e1]; exact List.getElem?_eq_getElem hjl)
  exact⟨_,_,s,l,c,List.getElem?_eq_getElem hil,List.getElem?_eq_getElem hjl,m1,m3,m4,by rw [k2,e2],q1,q2⟩
 have giveL: ∀ i j q,mp S (th P 9 el) vss i j q→q∈L∧ ∃ s rs,S.look ⟨q,[]⟩= .sl s rs:=by
  rintro i j q ⟨vs,v,s,x,k1,k2,k3,k4⟩
  obtain⟨r',m1,m2,m3⟩:=p2 i vs k1
  obtain⟨s',x',l',n1,n2,n3,n4⟩:=m3 j v k2
  rw [k3] at n1
  cases n1
  rw [k4] at n3
  simp only [Option.some.injEq,Prod.mk.injEq] at n3
  refine⟨n4 q (by rw [←n3.2]; exact List.mem_singleton.2 rfl),?_⟩
  rcases yB k4 with ⟨h,_⟩ | ⟨q',len',rows',_,_,h3,_,_,h6⟩
  ·cases h
  ·simp only [List.cons.injEq,and_true] at h6
   subst h6
   exact⟨s,rows',h3⟩
 have hIL:=hI.dropL L
 have hEL:ER w bt (dropL S L) a:=⟨hE.1,hE.2⟩
 let btn:=CS bt S (th P 9 el) vss w.heap.size len
 have below: ∀ p s rs,(tg [.sl (P.cellsOf el) rows]).look p= .sl s rs→p.r=0∧((p.l= [] ∧s=P.cellsOf el∧rs=rows)∨
   ∃ i j l,p.l=(i,j)::l∧(((∀ q,¬ mp S (th P 9 el) vss i j q)∧rs= [])∨ ∃ q rs0,mp S (th P 9 el) vss i j q∧S.look ⟨q,l⟩= .sl s rs0∧ ∃ n,rs=rs0.take n)):=by
  intro p s rs h
  obtain⟨h0,h1⟩:=B6 h
  refine⟨h0,?_⟩
  rcases h1 with h1 | ⟨i,j,l,r,x,hl,h2,h3,h4⟩
  ·exact .inl h1
  ·obtain⟨vs,v,s',l',c,k1,k2,k3,k4,k5,k6,k7,k8⟩:=cellAt i j r x h2 h3
   refine .inr ⟨i,j,l,hl,?_⟩
   rcases yB k4 with ⟨e1,e2⟩ | ⟨q,len',rows',e1,e2,e3,e4,e5,e6⟩
   ·left
    refine⟨fun q ⟨vs',v',s'',x',m1,m2,m3,m4⟩=> ?_,(e2 w bt c k8).go h4⟩
    rw [k1] at m1
    cases m1
    rw [k2] at m2
    cases m2
    rw [k3] at m3
    cases m3
    rw [k4] at m4
    simp only [Option.some.injEq,Prod.mk.injEq] at m4
    rw [e1] at m4
    cases m4.2
   ·right
    subst e5 e6
    obtain⟨ht,hr,hgo⟩: ∃ t,S.gh q=some t∧t= .sl s' rows':=by
     unfold St.look at e3
     simp only at e3
     split at e3
     ·rename_i t ht
      exact⟨t,ht,e3⟩
     ·cases e3
    subst hgo
    rcases T.go_take h4 with ⟨rfl,rfl,rfl⟩ | ⟨hm,hg⟩
    ·exact⟨q,rows',⟨vs,v,s,_,k1,k2,k3,k4⟩,e3,len',rfl⟩
    ·refine⟨q,rs,⟨vs,v,s',_,k1,k2,k3,k4⟩,?_,rs.length,(List.take_length).symm⟩
     unfold St.look
     simp only [hr]
     exact hg
 have nested: ∀ p s rs,(tg [.sl (P.cellsOf el) rows]).look p= .sl s rs→0 < btn.κ p→(p=⟨0,[]⟩∧s=P.cellsOf el∧rs=rows)∨ ∃ i j l q rs0 n,p=⟨0,(i,j)::l⟩∧mp S (th P 9 el) vss i j q∧S.look ⟨q,l⟩= .sl s rs0∧rs=rs0.take n∧btn.β p=bt.β ⟨q,l⟩∧btn.κ p=bt.κ ⟨q,l⟩:=by
  intro p s rs h hk
  obtain⟨pr,pl⟩:=p
  obtain⟨h0,h1⟩:=below _ _ _ h
  simp only at h0
  subst h0
  rcases h1 with ⟨h1,h2,h3⟩ | ⟨i,j,l,hl,⟨h1,_⟩ | ⟨q,rs0,h1,h2,n,h3⟩⟩
  ·simp only at h1
   subst h1
   exact .inl ⟨rfl,h2,h3⟩
  ·simp only at hl
   subst hl
   have:=YG (bt:=bt) (b:=w.heap.size) (n:=len) h1 0 l
   have hk':0 < (CS bt S (th P 9 el) vss w.heap.size len).κ ⟨0,(i,j)::l⟩:=hk
   omega
  ·simp only at hl
   subst hl
   obtain⟨e1,e2⟩:=E7 (bt:=bt) (b:=w.heap.size) (n:=len) h1 0 l
   exact .inr ⟨i,j,l,q,rs0,n,rfl,h1,h2,h3,e1,e2⟩
 obtain⟨f1,f2,f3⟩:=hI.fresh (b:=w.heap.size) (Nat.le_refl _)
 have hb:=ry w (.cells cs el)
 have hsub: ∀ (q r:Nat) (l:List (Nat×Nat)) (i j i' j':Nat),mp S (th P 9 el) vss i j q→btn.β ((⟨r,(i,j)::l⟩:ci).sub i' j')=bt.β ((⟨q,l⟩:ci).sub i' j')∧btn.κ ((⟨r,(i,j)::l⟩:ci).sub i' j')=bt.κ ((⟨q,l⟩:ci).sub i' j'):=by
  intro q r l i j i' j' hq
  exact E7 hq r (l++ [(i',j')])
 have:=Qv hIL hEL (by exact hfz) (xz.of_below hb) (sz:=P.cellsOf el) (rows:=rows) btn
  (fun p s rs h=>by
    refine⟨?_,fun hk=> ?_⟩
    ·obtain⟨pr,pl⟩:=p
     obtain⟨h0,h1⟩:=below _ _ _ h
     simp only at h0
     subst h0
     rcases h1 with ⟨h1,h2,h3⟩ | ⟨i,j,l,hl,⟨_,h2⟩ | ⟨q,rs0,h1,h2,n,h3⟩⟩
     ·simp only at h1
      subst h1 h3
      show rs.length≤len
      omega
     ·rw [h2]
      exact Nat.zero_le _
     ·simp only at hl
      subst hl
      obtain⟨_,e2⟩:=E7 (bt:=bt) (b:=w.heap.size) (n:=len) h1 0 l
      show rs.length≤(CS bt S (th P 9 el) vss w.heap.size len).κ _
      rw [e2]
      have:=(hI.tr _ _ _ h2).1
      rw [h3,List.length_take]
      omega
    ·rcases nested p s rs h hk with ⟨rfl,rfl,rfl⟩ | ⟨i,j,l,q,rs0,n,rfl,h1,h2,h3,e1,e2⟩
     ·refine⟨.inl hI.size,cs,el,vm w _,by show len*_≤_; rw [hcs]; exact Nat.le_refl _,hone,fun i r hi=> ?_⟩
      have hil:i < vss.length:=by rw [←p1]; exact (List.getElem?_eq_some_iff.1 hi).1
      obtain⟨r',k1,k2,k3⟩:=p2 i _ (List.getElem?_eq_getElem hil)
      rw [hi] at k1
      cases k1
      obtain⟨y,hy,e1,e2⟩:=hparts i _ (List.getElem?_eq_getElem hil)
      refine⟨by rw [k2,e2],fun j x hj=> ?_⟩
      obtain⟨vs,v,s',l',c,k1,k2,k3,k4,k5,k6,k7,k8⟩:=cellAt i j r x hi hj
      refine⟨c,k7,?_⟩
      rcases yB k4 with ⟨e1,e2⟩ | ⟨q,len',rows',rfl,e2,e3,e4,rfl,rfl⟩
      ·exact (e2 w bt c k8).hr _ _
      ·have hg:mp S (th P 9 el) vss i j q:=⟨vs,_,s',_,k1,k2,k3,k4⟩
       obtain⟨m1,m2⟩:=E7 (bt:=bt) (b:=w.heap.size) (n:=len) hg 0 []
       cases k8 with
       | own hp hc hk ha=>
         rename_i ad cap
         have hl: (rows'.take len').length=len':=by simp; omega
         have:=HR.sl (bt:=btn) (p:=(⟨0,[]⟩:ci).sub i j) (sz:=s') (rows:=rows'.take len') (a:=ad) (cap:=cap) (by rw [hl]; exact hc) (by show cap≤(CS bt S (th P 9 el) vss w.heap.size len).κ ⟨0,(i,j):: []⟩; rw [m2]; omega) (fun h=>by
          show ad=some ⟨(CS bt S (th P 9 el) vss w.heap.size len).β ⟨0,(i,j):: []⟩,0,none⟩
          rw [m1,ha h,Nat.zero_mul])
         rw [hl] at this
         exact this
     ·rw [e2] at hk
      obtain⟨g1,cs0,ee,k1,k2,k3,k4⟩:=(hI.tr _ _ _ h2).2 hk
      rw [e1]
      refine⟨g1,cs0,ee,?_,by rw [e2]; exact k2,k3,fun i' r hi=> ?_⟩
      ·rw [e1]
       have hlt:=hI.βlt h2 hk
       rw [hb.block _ hlt]
       exact k1
      ·rw [h3,List.getElem?_take] at hi
       split at hi
       ·obtain⟨m1,m2⟩:=k4 i' r hi
        refine⟨m1,fun j' x hj=> ?_⟩
        obtain⟨c,m3,m4⟩:=m2 j' x hj
        exact⟨c,m3,by
         obtain⟨z1,z2⟩:=hsub q 0 l i j i' j' h1
         cases m4 with
         | sc h=>exact .sc h
         | dd u=>exact .dd _
         | sl hc hk ha=>exact .sl hc (by rw [z2]; exact hk) (by rw [z1]; exact ha)⟩
       ·cases hi)
  (fun p q s rs s' rs' h h' hk hk' he=>by
    rcases nested p s rs h hk with ⟨rfl,rfl,rfl⟩ | ⟨i,j,l,q1,rs0,n,rfl,h1,h2,h3,e1,e2⟩ <;> rcases nested q s' rs' h' hk' with ⟨rfl,rfl,rfl⟩ | ⟨i',j',l',q2,rs0',n',rfl,h1',h2',h3',e1',e2'⟩
    ·rfl
    ·rw [e1'] at he
     rw [e2'] at hk'
     have:=hI.βlt h2' hk'
     have he':w.heap.size=bt.β ⟨q2,l'⟩:=he
     omega
    ·rw [e1] at he
     rw [e2] at hk
     have:=hI.βlt h2 hk
     have he':bt.β ⟨q1,l⟩=w.heap.size:=he
     omega
    ·rw [e1,e1'] at he
     rw [e2] at hk
     rw [e2'] at hk'
     have:=hI.inj _ _ _ _ _ _ h2 h2' hk hk' he
     simp only [ci.mk.injEq] at this
     obtain⟨rfl,rfl⟩:=this
     obtain⟨rfl,rfl⟩:=p3 i i' j j' q1 h1 h1'
     rfl)
  (fun p s rs h hk=>by
    rcases nested p s rs h hk with ⟨rfl,rfl,rfl⟩ | ⟨i,j,l,q,rs0,n,rfl,h1,h2,h3,e1,e2⟩
    ·refine⟨f1,fun q s rs hq hkq=>f2 q s rs (DH hq).2 hkq,f3⟩
    ·rw [e2] at hk
     rw [e1]
     refine⟨fun n cs hn=>hI.bbtr _ _ _ _ _ hn h2 hk,fun q' s' rs' hq hkq he=> ?_,hI.atr _ _ _ h2 hk⟩
     obtain⟨z1,z2⟩:=DH hq
     have:=hI.inj _ _ _ _ _ _ z2 h2 hkq hk he
     subst this
     exact z1 (giveL i j q h1).1)
 obtain⟨bt',g1,g2,g3,g4,g5⟩:=this
 have hmk:S.make ⟨S.ng,[.sl (P.cellsOf el) rows],qu L⟩= { dropL S L with gh:=cm (dropL S L).gh S.ng (some (.sl (P.cellsOf el) rows)),ng:=S.ng+1 } :=by
  unfold St.make dropL
  simp only [List.length_cons,List.length_nil,Nat.zero_add,rm]
  congr 1
  funext r
  simp only [cm]
  by_cases hr:r=S.ng
  ·subst hr; simp
  ·rw [if_neg (by omega),if_neg hr]
 refine⟨_,_,bt',hrun,?_,g2,vf g3 g4 g5 (Nat.le_refl _)⟩
 rw [hmk]
 refine⟨g1.inv,g1.er,g1.fz,trivial,g1.ng,g1.keep,fun r hr hn=> ?_⟩
 have:=g1.gone r hr hn
 unfold dropL at this
 simp only at this
 split at this
 ·rename_i hc
  have:=(AK hp r (by simpa using hc)).1
  have hr':r < S.fz:=hr
  omega
 ·exact this
end
end Go.Proofs.YtkcgfceffffmoaaGreat.En
namespace Go.Proofs.YtkcgfceffffmoaaGreat.En
open Go Go.RowKit
section
variable {P:Program} {w0 w wa w':World} {W:Nat→Prop} {btI bt bt0 bt1 bt':Bt} {SI S S0 S1 S':St} {a a':Act} {D:wj} {Q:Exit→Act→World→Prop}
theorem G7 (S:St):dropL S [] =S:=by
 unfold dropL
 simp
theorem Xl (S:St) (q:Nat):dropL S [q] = { S with gh:=cm S.gh q none } :=by
 unfold dropL
 congr 1
 funext r
 unfold cm
 by_cases h:r=q
 ·subst h; simp
 ·rw [if_neg (by simpa using h),if_neg h]
theorem Ly {sz:Nat} {fl:Bool} {av:AV} {more:List (List T)} {L:List Nat} (h:iB S sz fl av=some (more,L)):qt S sz fl av=some (more,dropL S L):=by
 unfold iB at h
 split at h
 ·simp only [Option.some.injEq,Prod.mk.injEq] at h
  obtain⟨rfl,rfl⟩:=h
  rw [G7]
  rfl
 ·split at h
  ·rename_i hc
   simp only [Option.some.injEq,Prod.mk.injEq] at h
   obtain⟨rfl,rfl⟩:=h
   rw [G7]
   simp only [qt]
   rw [if_pos hc]
  ·cases h
 ·rename_i p s lo len
  split at h
  ·rename_i hs
   simp only [Option.bind_eq_some_iff] at h
   obtain⟨rows,hr,h⟩:=h
   simp only [qt]
   rw [if_pos hs,hr]
   simp only [Option.bind_some]
   split at h
   ·rename_i hc
    simp only [Option.some.injEq,Prod.mk.injEq] at h
    obtain⟨rfl,rfl⟩:=h
    rw [if_pos hc,Xl]
   ·rename_i hc
    rw [if_neg hc]
    split at h
    ·rename_i hc'
     simp only [Option.some.injEq,Prod.mk.injEq] at h
     obtain⟨rfl,rfl⟩:=h
     rw [if_pos hc',G7]
    ·cases h
  ·cases h
 ·cases h
theorem N5 (hI:ed w0 W bt S w) (hE:ER w bt S a) (hfz:S.fz≤S.ng) {t ty el:TypeId} (hel:Cx P t=some el) {bav xav:AV} {bv xv:Value} (hb:VR w bt bav bv) (hx:VR w bt xav xv) {rows more:List (List T)} {cons:List Nat}
  {fl:Bool} {L:List Nat} (hs:iB S (P.cellsOf el) fl xav=some (more,L)) (h:rR (dropL S L) (P.cellsOf el) bav=some (rows,cons)) (hby: (rows.length+more.length)*P.bytesOf el≤2 ^ 40) (hn:rows.length+more.length≤2 ^ 40) (hpos:0 < P.cellsOf el) (hz: (JA P el).isSome=true):
  ∃ u w' bt',(Builtin.append_ #[t,t] ty #[bv,xv]).run P w= .ok u w'∧jK w0 W bt S a bt' (S.make ⟨S.ng,[.sl (P.cellsOf el) (rows++more)],qu (L++cons)⟩) w'∧bt.le bt'∧VR w' bt' (.own ⟨S.ng,[]⟩ (P.cellsOf el) 0 (rows.length+more.length)) u:=by
 obtain⟨zr,hz⟩:=Option.isSome_iff_exists.1 hz
 obtain⟨zs,h1,h2,_,_⟩:=B7 hz
 obtain⟨i,zv,hi,hzv,rfl,hall⟩:=qD h1
 have hsz:P.cellsOf el=i.size:=by simp [Program.cellsOf,hi]
 have hbz:P.bytesOf el=i.bytes:=by simp [Program.bytesOf,hi]
 obtain⟨src,news,hsrc⟩:=E2 hI hpos hx (Ly hs)
 have hID:ed w0 W bt (dropL S L) w:=hI.dropL L
 have hone: ∀ u∈zv.cells.toList,u.oneCell'=true:=fun u hu=>List.all_eq_true.1 hall u hu
 have go: ∀ {ab:Option Addr} {cap:Nat} {bp:Option ci} {olds:List Value} {S1:St},Bas w bt (dropL S L) S1 (P.cellsOf el) rows bv ab cap bp olds→
   S.make ⟨S.ng,[.sl (P.cellsOf el) (rows++more)],qu (L++cons)⟩= { S1 with gh:=cm S1.gh S.ng (some (.sl (P.cellsOf el) (rows++more))),ng:=S.ng+1 } → ∃ u w' bt',(Builtin.append_ #[t,t] ty #[bv,xv]).run P w= .ok u w'∧jK w0 W bt S a bt' (S.make ⟨S.ng,[.sl (P.cellsOf el) (rows++more)],qu (L++cons)⟩) w'∧bt.le bt'∧VR w' bt' (.own ⟨S.ng,[]⟩ (P.cellsOf el) 0 (rows.length+more.length)) u:=by
  intro ab cap bp olds S1 hbas hSe
  obtain⟨u,w',b,cap',hr,hap⟩:=Lr (P:=P) (w:=w) (t:=t) (ty:=ty) (e:=el) (i:=i) (z:=zv) (ab:=ab) (len:=rows.length) (cap:=cap) (m:=more.length) (olds:=olds) (news:=news) (x:=xv) (mn hel) hi hzv (by rw [←hsz,←h2]; simp) hone (by omega) hbas.le (by rw [←hsz]; exact hbas.len) (by rw [←hsz]; exact hsrc.len) (by rw [←hsz]; exact hbas.cur)
   (by
     rcases hsrc.val with ⟨h,h'⟩ | h
     ·exact .inl ⟨by rw [h]; rfl,h'⟩
     ·exact .inr h) hsrc.one hn (by rw [←hbz]; exact hby)
  rw [←hsz] at hap
  obtain⟨bt',g1,g2,g3⟩:=IK hI hE hfz hsrc hbas hap
  rw [hSe]
  refine⟨u,w',bt',?_,g1,g2,g3⟩
  rw [hbas.val]
  exact hr
 cases hb with
 | em ab=>
   simp only [rR,Option.some.injEq,Prod.mk.injEq] at h
   obtain⟨rfl,rfl⟩:=h
   refine go (ab:=ab) (cap:=0) (bp:=none) (olds:= []) (S1:=dropL S L) ⟨rfl,Nat.le_refl _,fun h=>absurd h (by omega),by simp,fun i r hi=>by simp at hi,fun h=>absurd h (by omega),rfl,fun p hp=>(nomatch hp),fun _=>rfl⟩ ?_
   unfold St.make dropL
   simp only [List.length_cons,List.length_nil,Nat.zero_add,rm,List.append_nil]
   congr 1
   funext r
   simp only [cm]
   by_cases hr:r=S.ng
   ·subst hr; simp
   ·rw [if_neg (by omega),if_neg hr]
 | own hp hcap hk ha=>
   rename_i q s' lo' len ad cap
   simp only [rR] at h
   split at h
   ·rename_i hc
    obtain⟨rfl,rfl,hql,hfz'⟩:=hc
    simp only [Option.bind_eq_some_iff] at h
    obtain⟨rows0,hrows,h⟩:=h
    split at h
    ·cases h
    ·rename_i hlen
     simp only [Option.some.injEq,Prod.mk.injEq] at h
     obtain⟨rfl,rfl⟩:=h
     have hlook:=mo hrows
     have htl: (rows0.take len).length=len:=by simp; omega
     have hlr:rows0.length≤bt.κ q:=(hID.tr _ _ _ hlook).1
     obtain⟨olds,hol,holds,hcur⟩: ∃ olds:List Value,olds.length=len*P.cellsOf el∧(∀ (i:Nat) (r:List T),(rows0.take len)[i]? =some r→r.length=P.cellsOf el∧ ∀ (j:Nat) (y:T),r[j]? =some y→ ∃ c,olds[i*P.cellsOf el+j]? =some c∧aas bt (some q) i j y c)∧
       (0 < cap→ ∃ g cur e',ad=some ⟨g,0,none⟩∧w.heap[g]? =some (.cells cur e' (0,0))∧cap*P.cellsOf el≤cur.size∧(∀ (k:Nat) (u:Value),cur[k]? =some u→u.oneCell'=true)∧ ∀ (k:Nat) (u:Value),olds[k]? =some u→cur[k]? =some u):=by
      rcases Nat.eq_zero_or_pos cap with h0 | h0
      ·have hl0:len=0:=by omega
       subst hl0
       exact⟨[],by simp,fun i r hi=>by simp at hi,fun h=>absurd h (by omega)⟩
      ·obtain⟨olds,g1,g2,g3,g4⟩:=B8 hID (lo:=0) (len:=len) hlook (by omega) (by omega)
       obtain⟨_,arr,e,k1,k2,k3,k4⟩:=(hID.tr _ _ _ hlook).2 (by omega)
       refine⟨olds,g1,fun i r hi=> ?_,fun _=>⟨bt.β q,arr,e,by rw [ha h0,Nat.zero_mul],k1,Nat.le_trans (Nat.mul_le_mul_right _ (by omega)) k2,k3,fun k u hk'=> ?_⟩⟩
       ·rw [List.drop_zero] at g4
        obtain⟨m1,m2⟩:=g4 i r hi
        refine⟨m1,fun j y hy=> ?_⟩
        obtain⟨c,m3,m4⟩:=m2 j y hy
        rw [Nat.zero_add] at m4
        exact⟨c,m3,m4⟩
       ·have:=g3 k u hk'
        rw [Go.Proofs.YtkcgfceffffmoaaGreat.En.add_lit,pV k1,Nat.zero_mul,Nat.zero_add] at this
        exact this
     refine go (ab:=ad) (cap:=cap) (bp:=some q) (olds:=olds) (S1:= { dropL S L with gh:=cm (dropL S L).gh q.r none })
      ⟨by rw [htl],by rw [htl]; exact hcap,fun h0=>⟨q,rfl,by rw [ha h0,Nat.zero_mul],by omega⟩,by rw [htl]; exact hol,holds,hcur,by simp [hql],fun p hp=>by
       cases hp
       exact⟨hfz',rows0,hlook,by rw [htl]⟩,fun h=>by cases h⟩ ?_
     unfold St.make dropL
     simp only [List.length_cons,List.length_nil,Nat.zero_add,rm]
     congr 1
     funext r
     simp only [cm]
     by_cases hr:r=S.ng
     ·subst hr; simp
     ·rw [if_neg (by omega),if_neg hr]
      by_cases hq:r=q.r
      ·subst hq; simp
      ·rw [if_neg hq]; simp [hq]
   ·cases h
 | _=>simp [rR] at h
theorem SJ (hD:sn P D) (hI:ed w0 W bt S w) (hE:ER w bt S a) (hfz:S.fz≤S.ng) {o:Oper} (hok:vp P o=true) {v:AV} {adds:List T} {cons:List Nat} (hs:fO D P S o=some (v,adds,cons)) {K:Act→World→Prop}
  (hK: ∀ bt1 u w',jK w0 W bt S a bt1 (S.make ⟨S.ng,adds,cons⟩) w'→bt.le bt1→VR w' bt1 (rQ S.ng v) u→K (a.put o.dst u) w'):o.wp P a w K Q:=by
 obtain⟨dst,op,type,pos,after,guard⟩:=o
 cases op with
 | buildSlice t len parts=>
   simp only [fO,Option.bind_eq_some_iff] at hs
   obtain⟨el,hel,hs⟩:=hs
   split at hs
   ·rename_i hc
    obtain⟨h1,h2,h3,h4,h5⟩:=hc
    simp only [Option.bind_eq_some_iff,Prod.exists] at hs
    obtain⟨rows,L,hp,hs⟩:=hs
    split at hs
    ·rename_i hnd
     simp only [Option.some.injEq,Prod.mk.injEq] at hs
     obtain⟨rfl,rfl,rfl⟩:=hs
     obtain⟨u,w',bt',g1,g2,g3,g4⟩:=QC hI hE hfz hel h1 h2 h3 h4 h5 hp hnd
     unfold Oper.wp
     have hr: (execOp a.eval ⟨dst, .buildSlice t len parts,type,pos,after,guard⟩).run P w= .ok (.value u) w':=by simp [execOp,g1]
     rw [hr,Oper.upon_value]
     refine hK bt' u w' g2 g3 ?_
     simp only [rQ,qs,tA,Nat.zero_add]
     exact g4
    ·cases hs
   ·cases hs
 | call c=>
   obtain⟨cl,as,ts⟩:=c
   cases cl with
   | invoke r m=>simp [fO] at hs
   | value f=>
     simp only [fO,Option.bind_eq_some_iff,Option.map_eq_some_iff,Prod.mk.injEq] at hs
     obtain⟨⟨g,caps⟩,hc,⟨res,out⟩,hr,rfl,rfl,rfl⟩:=hs
     simp only [vp,beq_iff_eq] at hok
     refine SF hD hI hE rfl hok hc hr (fun u w' btn hC hv=> ?_)
     obtain⟨bt',g1,g2,g3⟩:=CQ hI hE hfz hC hv
     refine hK bt' u w' ?_ g2 g3
     have e: (S.make ⟨S.ng,out,[]⟩)=(sj S (res,out)).2:=by
      unfold St.make sj
      simp only
      congr 1
     rw [e]
     exact g1
   | builtin b=>
     cases b with
     | append=>
       simp only [fO] at hs
       split at hs
       ·rename_i s x t t' e1 e2
        have e1:as= #[s,x] :=by apply Array.ext'; simpa using e1
        have e2:ts= #[t,t'] :=by apply Array.ext'; simpa using e2
        subst e1 e2
        split at hs
        ·rename_i htt
         subst htt
         simp only [Option.bind_eq_some_iff] at hs
         obtain⟨el,hel,⟨more,L⟩,h1,⟨rows,cs⟩,h2,hs⟩:=hs
         simp only at h1 h2 hs
         split at hs
         ·rename_i hc
          obtain⟨k1,k2,k3,k4⟩:=hc
          simp only [Option.some.injEq,Prod.mk.injEq] at hs
          obtain⟨rfl,rfl,rfl⟩:=hs
          obtain⟨u,w',bt',g1,g2,g3,g4⟩:=N5 (ty:=type) hI hE hfz hel (cx hE s) (cx hE x) h1 h2 k1 k2 k3 k4
          unfold Oper.wp
          have hr: (execOp a.eval ⟨dst, .call { callee:= .builtin .append,args:= #[s,x],argTypes:= #[t,t] },type,pos,after,guard⟩).run P w= .ok (.value u) w':=by simp [execOp,resolve,invoke,builtin,g1]
          rw [hr,Oper.upon_value]
          refine hK bt' u w' g2 g3 ?_
          simp only [rQ,qs,tA,Nat.zero_add]
          exact g4
         ·cases hs
        ·cases hs
       ·cases hs
     | _=>simp [fO] at hs
 | _=>simp [fO] at hs
theorem VR.two {bt2:Bt} (hnb:bt2.nb=bt1.nb) (hbb:bt2.bb=bt1.bb) (hA:bt2.A=bt1.A) (hng:bt0.ng≤bt2.ng) (hp: ∀ p:ci,p.r < bt0.ng→0 < bt1.κ p→bt2.β p=bt1.β p∧bt2.κ p=bt1.κ p) {v:AV} {c0:Value} (h0:VR wa bt0 v c0): ∀ {c:Value},VR w' bt1 v c→VR w' bt2 v c:=by
 induction h0 with
 | sc h=>intro c h1; cases h1 with | sc h=>exact .sc h
 | em a=>intro c h1; cases h1 with | em a=>exact .em a
 | ro h=>intro c h1; cases h1 with | ro h=>exact .ro (by rw [hA]; exact h)
 | own q1 q2 q3 q4=>
   intro c h1
   cases h1 with
   | own hp' hc hk ha=>
     rename_i p sz lo len _ _ ad cap
     rcases Nat.eq_zero_or_pos (bt1.κ p) with h0 | h0
     ·exact .own (Nat.lt_of_lt_of_le q1 hng) hc (by omega) (fun h=>absurd h (by omega))
     ·obtain⟨e1,e2⟩:=hp p q1 h0
      exact .own (Nat.lt_of_lt_of_le q1 hng) hc (by rw [e2]; exact hk) (by rw [e1]; exact ha)
 | pro cs hs hb hr ht=>intro c h1; cases h1 with | pro cs hs hb hr ht=>exact .pro cs hs (by rw [hA]; exact hb) hr (fun j x hx=>by rw [hA]; exact ht j x hx)
 | ptrB j hn=>
   intro c h1
   cases h1 with
   | ptrB j hn=>rw [←hbb]; exact .ptrB j (by rw [hnb]; exact hn)
 | ptrT sz i j q1 q2=>
   intro c h1
   cases h1 with
   | ptrT sz i j hp' hk=>
     rename_i p
     obtain⟨e1,e2⟩:=hp p q1 (by omega)
     rw [←e1]
     exact .ptrT sz i j (Nat.lt_of_lt_of_le q1 hng) (by rw [e2]; exact hk)
 | fn f hl h ih=>
   intro c h1
   rename_i caps us0
   cases h1 with
   | fn f hl' h'=>
     rename_i us
     refine .fn f hl' (fun k c u k1 k2=> ?_)
     have hk:k < us0.length:=by
      have:=(List.getElem?_eq_some_iff.1 k1).1
      omega
     exact ih k c _ k1 (List.getElem?_eq_getElem hk) (h' k c u k1 k2)
 | agg hl ho h ih=>
   intro c h1
   rename_i cs us0
   cases h1 with
   | agg hl' ho' h'=>
     refine .agg hl' ho' (fun k c u k1 k2=> ?_)
     have hk:k < us0.length:=by
      have:=(List.getElem?_eq_some_iff.1 k1).1
      omega
     exact ih k c _ k1 (List.getElem?_eq_getElem hk) (h' k c u k1 k2)
 | tup hl h ih=>
   intro c h1
   rename_i cs us0
   cases h1 with
   | tup hl' h'=>
     refine .tup hl' (fun k c u k1 k2=> ?_)
     have hk:k < us0.length:=by
      have:=(List.getElem?_eq_some_iff.1 k1).1
      omega
     exact ih k c _ k1 (List.getElem?_eq_getElem hk) (h' k c u k1 k2)
 | dead u=>intro c _; exact .dead c
def Bt.moved (bt:Bt) (N b k:Nat):Bt:= { bt with
 β:=fun p=>if b≤p.r∧p.r < b+k then bt.β ⟨N+(p.r - b),p.l⟩ else bt.β p
 κ:=fun p=>if b≤p.r∧p.r < b+k then bt.κ ⟨N+(p.r - b),p.l⟩ else bt.κ p
 ng:=N }
def St.moved (S:St) (N b k:Nat):St:= { S with gh:=fun r=>if b≤r∧r < b+k then S.gh (N+(r - b)) else if r < N then S.gh r else none,ng:=N }
theorem ed.moved (hI0:ed w0 W bt0 S0 wa) (hle:bt0.le bt1) (hI1:ed w0 W bt1 S1 w') {N b k:Nat} (hbx:S1.bx=S0.bx) (hN0:S0.ng=N) (hN1:S1.ng=N+k) (hb:b+k≤N) (hκ: ∀ p:ci,b≤p.r→p.r < b+k→bt0.κ p=0):
  ed w0 W (bt1.moved N b k) (S1.moved N b k) w'∧ ∀ {v:AV} {c0 c:Value},VR wa bt0 v c0→VR w' bt1 v c→VR w' (bt1.moved N b k) v c:=by
 have hng0:bt0.ng=N:=hI0.ng.trans hN0
 have two: ∀ {v:AV} {c0 c:Value},VR wa bt0 v c0→VR w' bt1 v c→VR w' (bt1.moved N b k) v c:=by
  intro v c0 c h0 h1
  refine VR.two (bt1:=bt1) (bt2:=bt1.moved N b k) rfl rfl rfl (by rw [hng0]; exact Nat.le_refl N) (fun p hp hk=> ?_) h0 h1
  have hn: ¬ (b≤p.r∧p.r < b+k):=fun h=>by
   have:=hle.κ p hp
   rw [hκ p h.1 h.2] at this
   omega
  simp only [Bt.moved]
  rw [if_neg hn,if_neg hn]
  exact⟨rfl,rfl⟩
 refine⟨?_,two⟩
 have look: ∀ p s rs,(S1.moved N b k).look p= .sl s rs→p.r < N∧ ∃ q:ci,q.l=p.l∧S1.look q= .sl s rs∧(bt1.moved N b k).β p=bt1.β q∧(bt1.moved N b k).κ p=bt1.κ q∧(∀ i j,(bt1.moved N b k).β (p.sub i j)=bt1.β (q.sub i j)∧(bt1.moved N b k).κ (p.sub i j)=bt1.κ (q.sub i j))∧
   ((b≤p.r∧p.r < b+k∧q.r=N+(p.r - b))∨(¬ (b≤p.r∧p.r < b+k)∧q.r=p.r)):=by
  intro p s rs h
  unfold St.look St.moved at h
  simp only at h
  by_cases hr:b≤p.r∧p.r < b+k
  ·rw [if_pos hr] at h
   refine⟨by omega,⟨N+(p.r - b),p.l⟩,rfl,h,by simp only [Bt.moved]; rw [if_pos hr],by simp only [Bt.moved]; rw [if_pos hr],fun i j=>⟨?_,?_⟩, .inl ⟨hr.1,hr.2,rfl⟩⟩
   ·simp only [Bt.moved,ci.sub]; rw [if_pos hr]
   ·simp only [Bt.moved,ci.sub]; rw [if_pos hr]
  ·rw [if_neg hr] at h
   by_cases hlt:p.r < N
   ·rw [if_pos hlt] at h
    refine⟨hlt,p,rfl,h,by simp only [Bt.moved]; rw [if_neg hr],by simp only [Bt.moved]; rw [if_neg hr],fun i j=>⟨?_,?_⟩, .inr ⟨hr,rfl⟩⟩
    ·simp only [Bt.moved,ci.sub]; rw [if_neg hr]
    ·simp only [Bt.moved,ci.sub]; rw [if_neg hr]
   ·rw [if_neg hlt] at h; cases h
 exact { os:=hI1.os,tape:=hI1.tape,output:=hI1.output,size:=hI1.size,keep:=hI1.keep,nb:=hI1.nb,ng:=rfl
         bx:=fun n cells hn=>by
          obtain⟨h1,h2,cs,e,h3,h4,h5⟩:=hI1.bx n cells hn
          refine⟨h1,h2,cs,e,h3,h4,fun j v hj=> ?_⟩
          obtain⟨c,k1,k2,k3⟩:=h5 j v hj
          have hn':S0.bx n=some cells:=by rw [←hbx]; exact hn
          obtain⟨_,_,cs0,e0,m3,m4,m5⟩:=hI0.bx n cells hn'
          obtain⟨c0,q1,q2,q3⟩:=m5 j v hj
          exact⟨c,k1,two q2 k2,k3⟩
         gh:=fun r t h=>by
          show r < N
          have h': (if b≤r∧r < b+k then S1.gh (N+(r - b)) else if r < N then S1.gh r else none)=some t:=h
          split at h'
          ·omega
          ·split at h'
           ·assumption
           ·cases h'
         tr:=fun p s rs h=>by
          obtain⟨_,q,_,hq,e1,e2,e3,_⟩:=look p s rs h
          obtain⟨k1,k2⟩:=hI1.tr _ _ _ hq
          rw [e1,e2]
          refine⟨k1,fun hk=>⟨(k2 hk).1,?_⟩⟩
          obtain⟨_,cs,e,g1,g2,g3,g4⟩:=k2 hk
          refine⟨cs,e,by rw [e1]; exact g1,by rw [e2]; exact g2,g3,fun i r hi=> ?_⟩
          obtain⟨m1,m2⟩:=g4 i r hi
          refine⟨m1,fun j x hj=> ?_⟩
          obtain⟨c,m3,m4⟩:=m2 j x hj
          refine⟨c,m3,?_⟩
          cases m4 with
          | sc h=>exact .sc h
          | dd u=>exact .dd _
          | sl q1 q2 q3=>exact .sl q1 (by rw [(e3 i j).2]; exact q2) (by rw [(e3 i j).1]; exact q3)
         inj:=fun p q s rs s' rs' h h' hk hk' he=>by
          obtain⟨l1,p1,a1,b1,c1,d1,_,r1⟩:=look p s rs h
          obtain⟨l2,p2,a2,b2,c2,d2,_,r2⟩:=look q s' rs' h'
          rw [d1] at hk
          rw [d2] at hk'
          rw [c1,c2] at he
          have:=hI1.inj _ _ _ _ _ _ b1 b2 hk hk' he
          subst this
          obtain⟨pr,pl⟩:=p
          obtain⟨qr,ql⟩:=q
          simp only at*
          rw [←a1,←a2]
          congr 1
          rcases r1 with ⟨x1,x2,x3⟩ | ⟨x1,x3⟩ <;> rcases r2 with ⟨y1,y2,y3⟩ | ⟨y1,y3⟩ <;> omega
         bbinj:=hI1.bbinj
         bbtr:=fun n c p s rs h h' hk=>by
          obtain⟨_,q,_,hq,e1,e2,_,_⟩:=look p s rs h'
          rw [e2] at hk
          rw [e1]
          exact hI1.bbtr _ _ _ _ _ h hq hk
         alt:=hI1.alt
         atr:=fun p s rs h hk=>by
          obtain⟨_,q,_,hq,e1,e2,_,_⟩:=look p s rs h
          rw [e2] at hk
          rw [e1]
          exact hI1.atr _ _ _ hq hk
         abb:=hI1.abb }
end
end Go.Proofs.YtkcgfceffffmoaaGreat.En
namespace Go.Proofs.YtkcgfceffffmoaaGreat.En
open Go Go.RowKit
section
variable {P:Program} {S SV:St} {D:wj}
def rS (S S':St) (v:AV):Prop:= ∀ r∈rx v,S'.gh r=S.gh r
theorem oQ {S S':St} {p:ci} {sz:Nat} (h:S'.gh p.r=S.gh p.r):S'.rows p sz=S.rows p sz:=by unfold St.rows St.look; rw [h]
theorem U8 {g:Nat→Option T} {n:Nat} {t:TypeId} {v:AV} (h:rS S { S with gh:=g,ng:=n } v):load P { S with gh:=g,ng:=n } t v=load P S t v:=by
 cases v with
 | ptrT p sz i j=>
   have:=oQ (S:=S) (S':= { S with gh:=g,ng:=n }) (p:=p) (sz:=sz) (h p.r (by simp [rx]))
   simp only [load,dB,this]
 | _=>rfl
theorem U9 {g:Nat→Option T} {n sz:Nat} {v:AV} (h:rS S { S with gh:=g,ng:=n } v):T.ofAV { S with gh:=g,ng:=n } sz v=T.ofAV S sz v:=by
 cases v with
 | own p s lo len=>
   have:=oQ (S:=S) (S':= { S with gh:=g,ng:=n }) (p:=p) (sz:=s) (h p.r (by simp [rx]))
   simp only [T.ofAV,this]
 | _=>rfl
theorem n7 {p:Nat→Bool}: ∀ {cs:List AV} {c:AV},zq p cs=true→c∈cs→nm p c=true
 | [],_,_,h=>by cases h
 | d::cs,c,h,hm=>by
   unfold zq at h
   simp only [Bool.and_eq_true] at h
   rcases List.mem_cons.1 hm with rfl | hm
   ·exact h.1
   ·exact n7 h.2 hm
theorem Lz {p:Nat→Bool}: ∀ {cs:List AV},(∀ c∈cs,nm p c=true)→zq p cs=true
 | [],_=>rfl
 | c::cs,h=>by
   unfold zq
   rw [h c List.mem_cons_self,Lz fun x hx=>h x (List.mem_cons_of_mem _ hx)]
   rfl
theorem uW {q:Nat→Bool} {g:Nat→Option T} {n sz:Nat} {v:AV} (hp:nm q v=true) (h:rS S { S with gh:=g,ng:=n } v) (hb: ∀ k,q k=true→ ∀ cs,S.bx k=some cs→ ∀ c∈cs,rS S { S with gh:=g,ng:=n } c):ey { S with gh:=g,ng:=n } sz v=ey S sz v:=by
 cases v with
 | own p s lo len=>
   have:=oQ (S:=S) (S':= { S with gh:=g,ng:=n }) (p:=p) (sz:=s) (h p.r (by simp [rx]))
   simp only [ey,this]
 | ptrT p s i j=>
   have:=oQ (S:=S) (S':= { S with gh:=g,ng:=n }) (p:=p) (sz:=s) (h p.r (by simp [rx]))
   simp only [ey,this]
 | ptrB b j=>
   simp only [ey]
   cases hbx:S.bx b with
   | none=>rfl
   | some cs=>
     simp only
     congr 1
     exact List.map_congr_left fun c hc=>U9 (hb b hp cs hbx c (List.mem_of_mem_drop hc))
 | _=>rfl
theorem G8 {v:AV} {cs:List AV} (hv:v= .agg cs∨ ∃ f,v= .fn f cs) {S':St} (h:rS S S' v): ∀ c∈cs,(∀ p s lo len,c= .own p s lo len→S'.gh p.r=S.gh p.r)∧(∀ p s i j,c= .ptrT p s i j→S'.gh p.r=S.gh p.r):=by
 intro c hc
 refine⟨fun p s lo len he=>h p.r ?_,fun p s i j he=>h p.r ?_⟩
 ·subst he
  rcases hv with rfl | ⟨f,rfl⟩ <;> (simp only [rx,List.mem_flatMap]; exact⟨_,hc,by simp⟩)
 ·subst he
  rcases hv with rfl | ⟨f,rfl⟩ <;> (simp only [rx,List.mem_flatMap]; exact⟨_,hc,by simp⟩)
theorem w7 {q:Nat→Bool} {g:Nat→Option T} {n sz:Nat} {c:AV} (hp:nm q c=true) (h: (∀ p s lo len,c= .own p s lo len→g p.r=S.gh p.r)∧(∀ p s i j,c= .ptrT p s i j→g p.r=S.gh p.r)) (hb: ∀ k,q k=true→ ∀ cs,S.bx k=some cs→ ∀ c∈cs,rS S { S with gh:=g,ng:=n } c):ey { S with gh:=g,ng:=n } sz c=ey S sz c:=by
 cases c with
 | own p s lo len=>exact uW hp (fun r hr=>by simp [rx] at hr; subst hr; exact h.1 p s lo len rfl) hb
 | ptrT p s i j=>exact uW hp (fun r hr=>by simp [rx] at hr; subst hr; exact h.2 p s i j rfl) hb
 | ptrB b j=>exact uW hp (fun r hr=>by simp [rx] at hr) hb
 | _=>rfl
theorem SK {q:Nat→Bool} {g:Nat→Option T} {n:Nat} {szs:List Nat} {v:AV} (hp:nm q v=true) (h:rS S { S with gh:=g,ng:=n } v) (hb: ∀ k,q k=true→ ∀ cs,S.bx k=some cs→ ∀ c∈cs,rS S { S with gh:=g,ng:=n } c):mm { S with gh:=g,ng:=n } szs v=mm S szs v:=by
 cases v with
 | agg cs=>
   have hc:=G8 (.inl rfl) h
   simp only [mm]
   split
   ·congr 1
    apply List.ext_getElem?
    intro k
    rw [List.getElem?_zipWith,List.getElem?_zipWith]
    cases hs:szs[k]? with
    | none=>rfl
    | some s=>
      cases hx:cs[k]? with
      | none=>rfl
      | some c=>
        simp only
        rw [w7 (n7 hp (List.mem_of_getElem? hx)) (hc c (List.mem_of_getElem? hx)) hb]
   ·rfl
 | fn f caps=>
   have hc:=G8 (.inr ⟨f,rfl⟩) h
   simp only [mm]
   congr 1
   exact List.map_congr_left fun c hcm=>w7 (n7 hp hcm) (hc c hcm) hb
 | em=>rfl
 | _=>exact uW (sz:=szs.headD 0) hp h hb
theorem wk (g:Nat→Option T) (n:Nat) (x:Operand):opd { S with gh:=g,ng:=n } x=opd S x:=by cases x <;> rfl
theorem Va (g:Nat→Option T) (n:Nat) (o:Oper):co P { S with gh:=g,ng:=n } o=co P S o:=by
 unfold co
 simp only [wk]
theorem aax (g:Nat→Option T) (n:Nat) (d:Int) (x:Option Operand):ox { S with gh:=g,ng:=n } d x=ox S d x:=by cases x <;> simp only [ox,wk]
theorem SL {g:Nat→Option T} {n:Nat} {o:Oper} (hn:md o=false) (h: ∀ x∈o.op.operands,rS S { S with gh:=g,ng:=n } (opd S x)):aH D P { S with gh:=g,ng:=n } o=aH D P S o:=by
 have sc:=Va (P:=P) (S:=S) g n o
 obtain⟨dst,op,type,pos,after,guard⟩:=o
 cases op with
 | load t x=>
   simp only [aH,wk]
   exact U8 (h x (by simp [Op.operands]))
 | makeFunc fn first caps=>
   cases fn with
   | func f=>
     have e:caps.toList.map (opd { S with gh:=g,ng:=n })=caps.toList.map (opd S):=List.map_congr_left fun x _=>wk g n x
     simp only [aH]
     rw [e]
   | _=>simp only [aH]; exact sc
 | unOp op t x=>cases op <;> simp only [aH,wk,sc]
 | binOp op t x y t'=>cases op <;> simp only [aH,wk,sc]
 | slice t x lo hi mx=>cases mx <;> simp only [aH,wk,aax,sc]
 | call c=>
   obtain⟨cl,as,ts⟩:=c
   have e:as.toList.map (opd { S with gh:=g,ng:=n })=as.toList.map (opd S):=List.map_congr_left fun x _=>wk g n x
   cases cl with
   | builtin b=>cases b <;> first | (simp only [aH]; rw [e,sc]; done) | (simp only [aH,wk,sc]; done) | (simp only [aH]; exact sc)
   | value f=>simp [md] at hn
   | invoke r m=>simp only [aH]; exact sc
 | _=>first | (simp only [aH,wk,sc]; done) | (simp only [aH]; exact sc)
theorem N6 {g:Nat→Option T} {n sz:Nat} {fl:Bool} {v:AV} (h:rS S { S with gh:=g,ng:=n } v):iB { S with gh:=g,ng:=n } sz fl v=iB S sz fl v:=by
 cases v with
 | own p s lo len=>
   have:=oQ (S:=S) (S':= { S with gh:=g,ng:=n }) (p:=p) (sz:=sz) (h p.r (by simp [rx]))
   simp only [iB,this]
 | _=>rfl
theorem SM {g:Nat→Option T} {n sz:Nat} {L:List Nat} {v:AV} (h:rS S { S with gh:=g,ng:=n } v):rR (dropL { S with gh:=g,ng:=n } L) sz v=rR (dropL S L) sz v:=by
 cases v with
 | own p s lo len=>
   have : (dropL { S with gh:=g,ng:=n } L).rows p sz=(dropL S L).rows p sz:=oQ (by
    unfold dropL
    have:=h p.r (by simp [rx])
    simp only at this ⊢
    rw [this])
   simp only [rR,this]
   rfl
 | _=>rfl
theorem LA {v c:AV} (hc:c∈v.cells) {q:Nat} (h: (∃ p s lo len,c= .own p s lo len∧p.r=q)∨ ∃ p s i j,c= .ptrT p s i j∧p.r=q):q∈rx v:=by
 cases v with
 | agg cs=>
   simp only [AV.cells] at hc
   simp only [rx]
   refine List.mem_flatMap.2 ⟨c,hc,?_⟩
   rcases h with ⟨p,s,lo,len,rfl,rfl⟩ | ⟨p,s,i,j,rfl,rfl⟩ <;> simp
 | _=>
   simp only [AV.cells,List.mem_singleton] at hc
   subst hc
   rcases h with ⟨p,s,lo,len,e,rfl⟩ | ⟨p,s,i,j,e,rfl⟩ <;> first | (cases e; simp [rx]) | cases e
theorem QD {q:Nat→Bool} {f:Operand} {g:FuncId} {caps:List AV} (hc:callee S f=some (g,caps)) (h:nm q (opd S f)=true): ∀ c∈caps,nm q c=true:=by
 unfold callee at hc
 split at hc
 ·simp only [Option.some.injEq,Prod.mk.injEq] at hc
  obtain⟨_,rfl⟩:=hc
  intro c hc
  cases hc
 ·rename_i g' cs he
  simp only [Option.some.injEq,Prod.mk.injEq] at hc
  obtain⟨rfl,rfl⟩:=hc
  rw [he] at h
  exact fun c hc=>n7 h hc
 ·cases hc
theorem SN {f:Operand} {g:FuncId} {caps:List AV} (hc:callee S f=some (g,caps)) {S':St} (h:rS S S' (opd S f)): ∀ c∈caps,(∀ p s lo len,c= .own p s lo len→S'.gh p.r=S.gh p.r)∧(∀ p s i j,c= .ptrT p s i j→S'.gh p.r=S.gh p.r):=by
 unfold callee at hc
 split at hc
 ·simp only [Option.some.injEq,Prod.mk.injEq] at hc
  obtain⟨_,rfl⟩:=hc
  intro c hc
  cases hc
 ·rename_i g' cs he
  simp only [Option.some.injEq,Prod.mk.injEq] at hc
  obtain⟨rfl,rfl⟩:=hc
  exact G8 (.inr ⟨g',he⟩) h
 ·cases hc
theorem QE {sz:Nat} {fl:Bool} {v:AV} {rows:List (List T)} {L:List Nat} (h:iB S sz fl v=some (rows,L)): ∀ r∈L,r∈rx v:=by
 unfold iB at h
 split at h
 ·simp only [Option.some.injEq,Prod.mk.injEq] at h
  obtain⟨_,rfl⟩:=h
  intro r hr
  cases hr
 ·split at h
  ·simp only [Option.some.injEq,Prod.mk.injEq] at h
   obtain⟨_,rfl⟩:=h
   intro r hr
   cases hr
  ·cases h
 ·split at h
  ·simp only [Option.bind_eq_some_iff] at h
   obtain⟨rs,_,h⟩:=h
   split at h
   ·simp only [Option.some.injEq,Prod.mk.injEq] at h
    obtain⟨_,rfl⟩:=h
    intro r hr
    simpa [rx] using hr
   ·split at h
    ·simp only [Option.some.injEq,Prod.mk.injEq] at h
     obtain⟨_,rfl⟩:=h
     intro r hr
     cases hr
    ·cases h
  ·cases h
 ·cases h
theorem Vb {sz:Nat} {v:AV} {rows:List (List T)} {cons:List Nat} (h:rR S sz v=some (rows,cons)): ∀ r∈cons,r∈rx v:=by
 unfold rR at h
 split at h
 ·simp only [Option.some.injEq,Prod.mk.injEq] at h
  obtain⟨_,rfl⟩:=h
  intro r hr
  cases hr
 ·split at h
  ·simp only [Option.bind_eq_some_iff] at h
   obtain⟨rs,_,h⟩:=h
   split at h
   ·cases h
   ·simp only [Option.some.injEq,Prod.mk.injEq] at h
    obtain⟨_,rfl⟩:=h
    intro r hr
    simpa [rx] using hr
  ·cases h
 ·cases h
theorem Xm {g:Nat→Option T} {n:Nat} {ss:List Nat} {l:List (Nat×Operand)} (h: ∀ x∈l,rS S { S with gh:=g,ng:=n } (opd S x.2)):gY { S with gh:=g,ng:=n } ss (l.map fun x=>(opd S x.2).cells)=gY S ss (l.map fun x=>(opd S x.2).cells):=by
 have bU: ∀ (v:AV),rS S { S with gh:=g,ng:=n } v→ ∀ ss,kg { S with gh:=g,ng:=n } ss v.cells=kg S ss v.cells:=by
  intro v hv ss
  have one: ∀ c∈v.cells,∀ s,oL { S with gh:=g,ng:=n } s c=oL S s c:=by
   intro c hc s
   unfold oL
   cases c with
   | own q s' lo len=>
     have:=oQ (S:=S) (S':= { S with gh:=g,ng:=n }) (p:=q) (sz:=s') (hv q.r (LA hc (.inl ⟨q,s',lo,len,rfl,rfl⟩)))
     simp only [this]
   | _=>rfl
  generalize v.cells=vs at one
  induction vs generalizing ss with
  | nil=>cases ss <;> rfl
  | cons c vs ih=>
    cases ss with
    | nil=>rfl
    | cons s ss=>
      unfold kg
      rw [one c List.mem_cons_self,ih ss (fun d hd=>one d (List.mem_cons_of_mem _ hd))]
 induction l with
 | nil=>rfl
 | cons x l ih=>
   simp only [List.map_cons,gY]
   rw [bU _ (h x List.mem_cons_self),ih (fun y hy=>h y (List.mem_cons_of_mem _ hy))]
theorem SO {q:Nat→Bool} {g:Nat→Option T} {n:Nat} {o:Oper} (hp:DD o=true→ ∀ x∈o.op.operands,nm q (opd S x)=true) (h: ∀ x∈o.op.operands,rS S { S with gh:=g,ng:=n } (opd S x)) (hb: ∀ k,q k=true→ ∀ cs,S.bx k=some cs→ ∀ c∈cs,rS S { S with gh:=g,ng:=n } c):fO D P { S with gh:=g,ng:=n } o=fO D P S o:=by
 obtain⟨dst,op,type,pos,after,guard⟩:=o
 cases op with
 | buildSlice t len parts=>
   have hp: ∀ ss,gY { S with gh:=g,ng:=n } ss (parts.toList.map fun x=>(opd S x.2).cells)=gY S ss (parts.toList.map fun x=>(opd S x.2).cells):=fun ss=>Xm (fun x hx=>h x.2 (by
    simp only [Op.operands,List.mem_toArray]
    exact List.mem_map.2 ⟨x,hx,rfl⟩))
   simp only [fO,wk,hp]
 | call c=>
   obtain⟨cl,as,ts⟩:=c
   cases cl with
   | invoke r m=>rfl
   | value f=>
     simp only [fO]
     have hc:callee { S with gh:=g,ng:=n } f=callee S f:=by unfold callee; rw [wk]
     rw [hc]
     cases hcs:callee S f with
     | none=>rfl
     | some x=>
       obtain⟨g',caps⟩:=x
       simp only [Option.bind_some]
       have ha:args P { S with gh:=g,ng:=n } ts as caps=args P S ts as caps:=by
        unfold args
        congr 1
        ·apply List.ext_getElem?
         intro k
         rw [List.getElem?_zipWith,List.getElem?_zipWith]
         cases ht:ts.toList[k]? with
         | none=>rfl
         | some t=>
           cases hx:as.toList[k]? with
           | none=>rfl
           | some x=>
             simp only
             rw [wk,SK (hp rfl x (by simp [Op.operands,Call.operands]; right; simpa using List.mem_of_getElem? hx)) (h x (by simp [Op.operands,Call.operands]; right; simpa using List.mem_of_getElem? hx)) hb]
        ·refine List.map_congr_left fun c hcm=> ?_
         exact w7 (sz:=0) (QD hcs (hp rfl f (by simp [Op.operands,Call.operands])) c hcm) (SN hcs (h f (by simp [Op.operands,Call.operands])) c hcm) hb
       rw [ha]
   | builtin b=>
     cases b with
     | append=>
       simp only [fO]
       split
       ·rename_i s x t t' e1 e2
        have e1:as= #[s,x] :=by apply Array.ext'; simpa using e1
        subst e1
        simp only [wk]
        have e3: ∀ sz fl,iB { S with gh:=g,ng:=n } sz fl (opd S x)=iB S sz fl (opd S x):=fun sz fl=>N6 (h x (by simp [Op.operands,Call.operands]))
        have e4: ∀ L sz,rR (dropL { S with gh:=g,ng:=n } L) sz (opd S s)=rR (dropL S L) sz (opd S s):=fun L sz=>SM (h s (by simp [Op.operands,Call.operands]))
        simp only [e3,e4]
       ·rfl
     | _=>rfl
 | _=>rfl
theorem Vc {o:Oper} {v:AV} {adds:List T} {cons:List Nat} (h:fO D P S o=some (v,adds,cons)): ∀ r∈cons,∃ x∈o.op.operands,r∈rx (opd S x):=by
 obtain⟨dst,op,type,pos,after,guard⟩:=o
 cases op with
 | buildSlice t len parts=>
   simp only [fO,Option.bind_eq_some_iff] at h
   obtain⟨el,_,h⟩:=h
   split at h
   ·simp only [Option.bind_eq_some_iff,Prod.exists] at h
    obtain⟨rows,L,hp,h⟩:=h
    split at h
    ·simp only [Option.some.injEq,Prod.mk.injEq] at h
     obtain⟨_,_,rfl⟩:=h
     intro r hr
     obtain⟨_,vs,hvs,v,hv,s,len',rfl⟩:=AK hp r (DG.1 hr)
     obtain⟨y,hy,rfl⟩:=List.mem_map.1 hvs
     refine⟨y.2,?_,LA hv (.inl ⟨_,_,_,_,rfl,rfl⟩)⟩
     simp only [Op.operands,List.mem_toArray]
     exact List.mem_map.2 ⟨y,hy,rfl⟩
    ·cases h
   ·cases h
 | call c=>
   obtain⟨cl,as,ts⟩:=c
   cases cl with
   | invoke r m=>simp [fO] at h
   | value f=>
     simp only [fO,Option.bind_eq_some_iff,Option.map_eq_some_iff,Prod.mk.injEq] at h
     obtain⟨_,_,_,_,_,_,rfl⟩:=h
     intro r hr
     cases hr
   | builtin b=>
     cases b with
     | append=>
       simp only [fO] at h
       split at h
       ·rename_i s x t t' e1 e2
        have e1:as= #[s,x] :=by apply Array.ext'; simpa using e1
        subst e1
        split at h
        ·simp only [Option.bind_eq_some_iff] at h
         obtain⟨el,_,⟨more,L⟩,h1,⟨rows,cs⟩,h2,h⟩:=h
         simp only at h h1 h2
         split at h
         ·simp only [Option.some.injEq,Prod.mk.injEq] at h
          obtain⟨_,_,rfl⟩:=h
          intro r hr
          rcases List.mem_append.1 (DG.1 hr) with hr | hr
          ·exact⟨x,by simp [Op.operands,Call.operands],QE h1 r hr⟩
          ·exact⟨s,by simp [Op.operands,Call.operands],Vb h2 r hr⟩
         ·cases h
        ·cases h
       ·cases h
     | _=>simp [fO] at h
 | _=>simp [fO] at h
end
end Go.Proofs.YtkcgfceffffmoaaGreat.En
namespace Go.Proofs.YtkcgfceffffmoaaGreat.En
open Go Go.RowKit
section
variable {P:Program} {S SV:St} {D:wj}
def mk1 (g:Nat→Option T) (m:kh):Nat→Option T:=fun r=>if m.b≤r∧r < m.b+m.adds.length then m.adds[r - m.b]? else if m.cons.contains r then none else g r
def AL: (Nat→Option T)→List kh→Nat→Option T
 | g,[] =>g
 | g,m::ms=>AL (mk1 g m) ms
theorem K3 (g:Nat→Option T) (b:Nat):mk1 g ⟨b,[],[]⟩=g:=by
 funext r
 unfold mk1
 simp only [List.length_nil,Nat.add_zero]
 rw [if_neg (by omega)]
 simp
def ad3 (D:wj) (P:Program) (all:Array Oper) (l:List Oper) (S SV:St) (ms:List kh) (k:Nat) (o:Oper):Prop:=
 ∃ env b m,ms[k]? =some m∧(∀ (t:Nat) (j:Nat) (oj:Oper),j < k→l[j]? =some oj→aA oj=false→oj.dst=some t→env t=SV.env t)∧
   (∀ t,(∀ (j:Nat) (oj:Oper),j < k→l[j]? =some oj→aA oj=false→oj.dst≠some t)→env t=S.env t)∧qC { S with env:=env } all o=some b∧(∀ d,o.dst=some d→d < S.nt)∧
   (b=true→md o=true→ ∃ v,fO D P { S with env:=env,gh:=AL S.gh (ms.take k),ng:=m.b } o=some (v,m.adds,m.cons)∧ ∀ d,o.dst=some d→SV.env d=rQ m.b v)∧
   (b=true→md o=false→ei o=false→ ∃ v,aH D P { S with env:=env,gh:=AL S.gh (ms.take k),ng:=m.b } o=some v∧m.adds= [] ∧m.cons= [] ∧ ∀ d,o.dst=some d→SV.env d=v)∧
   (b=false→m.adds= [] ∧m.cons= [] ∧ ∀ d,o.dst=some d→SV.env d= .tup [])∧
   (ei o=true→b=true∧m.adds= [] ∧m.cons= [] ∧ ∀ d,o.dst=some d→SV.env d= .ptrB (S.nb - 1 - dU (l.drop (k+1))) 0)
abbrev ac7 (D:wj) (P:Program) (all:Array Oper) (l:List Oper) (S SV:St) (ms:List kh):Prop:=
 ms.length=l.length∧SV= { S with env:=SV.env,gh:=AL S.gh ms,ng:=SV.ng } ∧S.ng≤SV.ng∧(∀ t,(∀ o∈l,aA o=false→o.dst≠some t)→SV.env t=S.env t)∧
  (∀ (k:Nat) (m:kh),ms[k]? =some m→S.ng≤m.b∧m.b+m.adds.length≤SV.ng∧ ∀ (j:Nat) (m':kh),j < k→ms[j]? =some m'→m'.b+m'.adds.length≤m.b)∧
  (∀ (k:Nat) (o:Oper) (m:kh),l[k]? =some o→ms[k]? =some m→aA o=true→m.adds= [] ∧m.cons= [])∧
  ∀ (k:Nat) (o:Oper),l[k]? =some o→aA o=false→ad3 D P all l S SV ms k o
theorem Xn {all:Array Oper}: ∀ (l:List Oper) (S SV:St) (ms:List kh),l.Pairwise (fun x y=> ∀ d,x.dst=some d→y.dst≠some d)→Lk D P all l S=some (SV,ms)→ac7 D P all l S SV ms:=by
 intro l
 induction l with
 | nil=>
   intro S SV ms _ h
   simp only [Lk,Option.some.injEq,Prod.mk.injEq] at h
   obtain⟨rfl,rfl⟩:=h
   exact⟨rfl,rfl,Nat.le_refl _,fun _ _=>rfl,fun k m hk=>by simp at hk,fun k o m hk=>by simp at hk,fun k o hk=>by simp at hk⟩
 | cons o l ih=>
   intro S SV ms hp h
   obtain⟨hp1,hp2⟩:=List.pairwise_cons.1 hp
   have way: ∀ (S1:St) (m:kh) (ms':List kh),ms=m::ms'→m.b=S.ng→Lk D P all l S1=some (SV,ms')→S1= { S with env:=S1.env,gh:=mk1 S.gh m,ng:=S.ng+m.adds.length } →
     (aA o=true→m.adds= [] ∧m.cons= [] ∧S1.env=S.env)→
     (aA o=false→ ∃ b v,qC S all o=some b∧S1.env=(match o.dst with | some d=>cm S.env d v | none=>S.env)∧(∀ d,o.dst=some d→d < S.nt)∧
       (b=true→md o=true→ ∃ v0,fO D P S o=some (v0,m.adds,m.cons)∧v=rQ m.b v0)∧(b=true→md o=false→ei o=false→aH D P S o=some v∧m.adds= [] ∧m.cons= [])∧(b=false→m.adds= [] ∧m.cons= [] ∧v= .tup [])∧(ei o=true→b=true∧m.adds= [] ∧m.cons= [] ∧v= .ptrB (S.nb - 1 - dU l) 0))→
     ac7 D P all (o::l) S SV ms:=by
    intro S1 m ms' hms hmb he hS1 hst hns
    obtain⟨e1,e2,e3,e4,e5,e6,e7⟩:=ih S1 SV ms' hp2 he
    subst hms
    have hng1:S1.ng=S.ng+m.adds.length:=by rw [hS1]
    have hgh1:S1.gh=mk1 S.gh m:=by rw [hS1]
    have hnt1:S1.nt=S.nt:=by rw [hS1]
    have hnb1:S1.nb=S.nb:=by rw [hS1]
    have hform: ∀ (env:Nat→AV) (g:Nat→Option T) (n:Nat),({ S1 with env:=env,gh:=g,ng:=n }:St)= { S with env:=env,gh:=g,ng:=n } :=by
     intro env g n
     rw [hS1]
    have hform2: ∀ (env:Nat→AV),qC ({ S1 with env:=env }:St) all=qC ({ S with env:=env }:St) all:=by
     intro env
     funext o
     rw [hS1]
     rfl
    have h1other: ∀ t,(aA o=false→o.dst≠some t)→S1.env t=S.env t:=by
     intro t ht
     cases hso:aA o with
     | true=>rw [(hst hso).2.2]
     | false=>
       obtain⟨b,v,_,h2,_⟩:=hns hso
       rw [h2]
       cases hd:o.dst with
       | none=>rfl
       | some d=>
         simp only [cm]
         rw [if_neg]
         intro he
         exact ht hso (by rw [hd,he])
    refine⟨by simp [e1],?_,by omega,fun t ht=> ?_,fun k m' hk=> ?_,fun k o' m' hk hm hs=> ?_,fun k o' hk hs=> ?_⟩
    ·have :AL S.gh (m::ms')=AL S1.gh ms':=by rw [hgh1]; rfl
     rw [this,e2]
     exact hform _ _ _
    ·rw [e4 t (fun o' ho'=>ht o' (List.mem_cons_of_mem _ ho')),h1other t (ht o List.mem_cons_self)]
    ·cases k with
     | zero=>
       simp only [List.getElem?_cons_zero,Option.some.injEq] at hk
       subst hk
       exact⟨by omega,by omega,fun j m' hj=>by omega⟩
     | succ k=>
       obtain⟨q1,q2,q3⟩:=e5 k m' (by simpa using hk)
       refine⟨by omega,q2,fun j m'' hj hjm=> ?_⟩
       cases j with
       | zero=>
         simp only [List.getElem?_cons_zero,Option.some.injEq] at hjm
         subst hjm
         omega
       | succ j=>exact q3 j m'' (by omega) (by simpa using hjm)
    ·cases k with
     | zero=>
       simp only [List.getElem?_cons_zero,Option.some.injEq] at hk hm
       subst hk hm
       exact⟨(hst hs).1,(hst hs).2.1⟩
     | succ k=>exact e6 k o' m' (by simpa using hk) (by simpa using hm) hs
    ·cases k with
     | zero=>
       simp only [List.getElem?_cons_zero,Option.some.injEq] at hk
       subst hk
       obtain⟨b,v,h1,h2,h3,h4,h5,h6,h7⟩:=hns hs
       have hown: ∀ d,o.dst=some d→SV.env d=v:=by
        intro d hd
        rw [e4 d (fun o' ho' _=>hp1 o' ho' d hd),h2,hd]
        simp [cm]
       have hS: ({ S with env:=S.env,gh:=AL S.gh ((m::ms').take 0),ng:=m.b }:St)=S:=by
        rw [hmb]; rfl
       refine⟨S.env,b,m,rfl,fun t j oj hj=>by omega,fun _ _=>rfl,h1,h3,fun hb hn=> ?_,fun hb hn hx=> ?_,fun hb=> ?_,fun hx=> ?_⟩
       ·obtain⟨v0,g1,g2⟩:=h4 hb hn
        exact⟨v0,by rw [hS]; exact g1,fun d hd=>by rw [hown d hd,g2]⟩
       ·obtain⟨g1,g2,g3⟩:=h5 hb hn hx
        exact⟨v,by rw [hS]; exact g1,g2,g3,hown⟩
       ·obtain⟨g1,g2,g3⟩:=h6 hb
        exact⟨g1,g2,fun d hd=>by rw [hown d hd,g3]⟩
       ·obtain⟨g1,g2,g3,g4⟩:=h7 hx
        exact⟨g1,g2,g3,fun d hd=>by rw [hown d hd,g4]; rfl⟩
     | succ k=>
       obtain⟨env,b,m',g0,g1,g2,g3,g4,g5,g6,g7,g8⟩:=e7 k o' (by simpa using hk) hs
       have htk:AL S.gh ((m::ms').take (k+1))=AL S1.gh (ms'.take k):=by rw [hgh1]; rfl
       rw [hform2] at g3
       simp only [hform] at g5 g6
       refine⟨env,b,m',by simpa using g0,fun t j oj hj hjj hs' hd=> ?_,fun t ht=> ?_,g3,fun d hd=>by rw [←hnt1]; exact g4 d hd,fun hb hn=>by rw [htk]; exact g5 hb hn,fun hb hn hx=>by rw [htk]; exact g6 hb hn hx,g7,fun hx=>by rw [←hnb1]; exact g8 hx⟩
       ·cases j with
        | zero=>
          simp only [List.getElem?_cons_zero,Option.some.injEq] at hjj
          subst hjj
          obtain⟨b',v,_,h2,_⟩:=hns hs'
          rw [g2 t (fun _ o'' _ ho'' _=>hp1 o'' (List.mem_of_getElem? ho'') t hd),e4 t (fun o'' ho'' _=>hp1 o'' ho'' t hd)]
        | succ j=>exact g1 t j oj (by omega) (by simpa using hjj) hs' hd
       ·rw [g2 t (fun j o'' hj ho'' hs=>ht (j+1) o'' (by omega) (by simpa using ho'') hs),h1other t (fun hs=>ht 0 o (by omega) rfl hs)]
   have put: ∀ {S0 S1:St} {v:AV},S0.put o.dst v=some S1→S1= { S0 with env:=S1.env } ∧S1.env=(match o.dst with | some d=>cm S0.env d v | none=>S0.env)∧(∀ d,o.dst=some d→d < S0.nt):=by
    intro S0 S1 v hput
    cases hd:o.dst with
    | none=>
      rw [hd] at hput
      simp only [St.put,Option.some.injEq] at hput
      subst hput
      exact⟨rfl,rfl,fun d hd=>by cases hd⟩
    | some d=>
      rw [hd] at hput
      simp only [St.put] at hput
      split at hput
      ·simp only [Option.some.injEq] at hput
       subst hput
       exact⟨rfl,rfl,fun d' hd'=>by cases hd'; assumption⟩
      ·cases hput
   simp only [Lk] at h
   split at h
   ·rename_i hst
    simp only [Option.map_eq_some_iff,Prod.exists,Prod.mk.injEq] at h
    obtain⟨SV',ms',h1,rfl,rfl⟩:=h
    exact way S ⟨S.ng,[],[]⟩ ms' rfl rfl h1 (by rw [K3]; rfl) (fun _=>⟨rfl,rfl,rfl⟩) (fun hs=>by rw [hst] at hs; cases hs)
   ·rename_i hst
    have hst:aA o=false:=by simpa using hst
    split at h
    ·rename_i hbo
     split at h
     ·rename_i hg
      have hg':o.guard=none:=by simpa using hg
      simp only [Option.bind_eq_some_iff,Option.map_eq_some_iff,Prod.exists,Prod.mk.injEq] at h
      obtain⟨S1,h1,SV',ms',h2,rfl,rfl⟩:=h
      obtain⟨p1,p2,p3⟩:=put h1
      have hnn:md o=false:=by
       unfold ei at hbo
       split at hbo
       ·rename_i t ht
        unfold md
        rw [ht]
       ·cases hbo
      exact way S1 ⟨S.ng,[],[]⟩ ms' rfl rfl h2 (by rw [K3]; exact p1) (fun hs=>by rw [hst] at hs; cases hs) (fun _=>⟨true,_,by unfold qC; rw [hg'],p2,p3,fun _ h=>(by rw [hnn] at h; cases h),fun _ _ h=>(by rw [hbo] at h; cases h),fun h=>(nomatch h),fun _=>⟨rfl,rfl,rfl,rfl⟩⟩)
     ·cases h
    rename_i hbo
    have hbo:ei o=false:=by simpa using hbo
    simp only [Option.bind_eq_some_iff] at h
    obtain⟨b,hb,h⟩:=h
    cases b with
    | false=>
      simp only [Bool.false_eq_true,if_false,Option.bind_eq_some_iff,Option.map_eq_some_iff,Prod.exists,Prod.mk.injEq] at h
      obtain⟨S1,h1,SV',ms',h2,rfl,rfl⟩:=h
      obtain⟨p1,p2,p3⟩:=put h1
      exact way S1 ⟨S.ng,[],[]⟩ ms' rfl rfl h2 (by rw [K3]; exact p1) (fun hs=>by rw [hst] at hs; cases hs) (fun _=>⟨false, .tup [],hb,p2,p3,fun h=>(nomatch h),fun h=>(nomatch h),fun _=>⟨rfl,rfl,rfl⟩,fun h=>(by rw [hbo] at h; cases h)⟩)
    | true=>
      simp only [if_true] at h
      split at h
      ·rename_i hn
       simp only [Option.bind_eq_some_iff,Option.map_eq_some_iff,Prod.exists,Prod.mk.injEq] at h
       obtain⟨v,adds,cons,h0,S1,h1,SV',ms',h2,rfl,rfl⟩:=h
       obtain⟨p1,p2,p3⟩:=put h1
       exact way S1 ⟨S.ng,adds,cons⟩ ms' rfl rfl h2 p1 (fun hs=>by rw [hst] at hs; cases hs) (fun _=>⟨true,_,hb,p2,p3,fun _ _=>⟨v,h0,rfl⟩,fun _ h=>(by rw [hn] at h; cases h),fun h=>(nomatch h),fun h=>(by rw [hbo] at h; cases h)⟩)
      ·rename_i hn
       have hn:md o=false:=by simpa using hn
       simp only [Option.bind_eq_some_iff,Option.map_eq_some_iff,Prod.exists,Prod.mk.injEq] at h
       obtain⟨S1,⟨v,h0,h1⟩,SV',ms',h2,rfl,rfl⟩:=h
       obtain⟨p1,p2,p3⟩:=put h1
       exact way S1 ⟨S.ng,[],[]⟩ ms' rfl rfl h2 (by rw [K3]; exact p1) (fun hs=>by rw [hst] at hs; cases hs) (fun _=>⟨true,v,hb,p2,p3,fun _ h=>(by rw [hn] at h; cases h),fun _ _ _=>⟨h0,rfl,rfl⟩,fun h=>(nomatch h),fun h=>(by rw [hbo] at h; cases h)⟩)
end
end Go.Proofs.YtkcgfceffffmoaaGreat.En
