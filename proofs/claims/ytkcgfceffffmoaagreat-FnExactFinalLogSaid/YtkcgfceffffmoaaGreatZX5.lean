import Derived.Test.YtkcgfceffffmoaaGreatZX4
namespace Go.Proofs.YtkcgfceffffmoaaGreat.En
open Go Go.RowKit
section
variable {P:Program} {w0 w w':World} {W:Nat→Prop} {bt bt':Bt} {S0 S S':St} {a a':Act} {D:eI}
def gM (bt:Bt) (σ:List (Option Nat)):Bt where
 β:=fun p=>match σ[p.r]? with | some (some r)=>bt.β ⟨r,p.l⟩ | _=>0
 κ:=fun p=>match σ[p.r]? with | some (some r)=>bt.κ ⟨r,p.l⟩ | _=>0
 bb:=fun _=>0
 nb:=0
 ng:=σ.length
 A:=bt.A
def Tr (S0:St) (r:Nat) (t:T):Prop:= ∀ m s rs,t.go m= .sl s rs→ ∃ rs0,S0.look ⟨r,m⟩= .sl s rs0∧rs.length≤rs0.length∧ ∀ (i:Nat) (row:List T),rs[i]? =some row→rs0[i]? =some row
structure Ex (S0 S:St) (gs:List T) (σ:List (Option Nat)):Prop where
 len:σ.length=gs.length
 sub: ∀ r t,S.gh r=some t→S0.gh r=some t
 fz:S.fz=S0.fz
 src: ∀ (k:Nat) (t:T),gs[k]? =some t→(∃ r,σ[k]? =some (some r)∧Tr S0 r t)∨(σ[k]? =some none∧ ∃ sz,t= .sl sz [])
 inj: ∀ (j k r:Nat),σ[j]? =some (some r)→σ[k]? =some (some r)→j=k
 used: ∀ (k r:Nat),σ[k]? =some (some r)→r < S0.fz∨S.gh r=none
theorem aH.out (hI:aH w0 W bt S0 w) {gs:List T} {σ:List (Option Nat)} (hx:Ex S0 S gs σ):aH w0 W (gM bt σ) (dz gs) w:=by
 have look: ∀ p s rs,(dz gs).look p= .sl s rs→(∃ r rs0,σ[p.r]? =some (some r)∧S0.look ⟨r,p.l⟩= .sl s rs0∧rs.length≤rs0.length∧ ∀ (i:Nat) (row:List T),rs[i]? =some row→rs0[i]? =some row)∨(σ[p.r]? =some none∧rs= []):=by
  intro p s rs h
  unfold St.look dz at h
  simp only at h
  split at h
  ·rename_i t ht
   rcases hx.src _ t ht with ⟨r,h1,h2⟩ | ⟨h1,sz,rfl⟩
   ·obtain⟨rs0,h3,h4,h5⟩:=h2 _ _ _ h
    exact .inl ⟨r,rs0,h1,h3,h4,h5⟩
   ·right
    refine⟨h1,?_⟩
    cases hl:p.l with
    | nil=>rw [hl] at h; simp only [T.go,T.sl.injEq] at h; exact h.2.symm
    | cons y l=>
      rw [hl] at h
      obtain⟨i,j⟩:=y
      simp [T.go,T.cell,T.dd_go] at h
  ·cases h
 have eκ: ∀ (p:ap) (r:Nat),σ[p.r]? =some (some r)→(gM bt σ).κ p=bt.κ ⟨r,p.l⟩∧(gM bt σ).β p=bt.β ⟨r,p.l⟩:=by
  intro p r h
  simp [gM,h]
 have e0: ∀ (p:ap),σ[p.r]? =some none→(gM bt σ).κ p=0:=by
  intro p h
  simp [gM,h]
 exact { os:=hI.os,tape:=hI.tape,output:=hI.output,size:=hI.size,keep:=hI.keep,nb:=rfl,ng:=by simp [gM,dz,hx.len]
         bx:=fun n cells h=>by cases h
         gh:=fun r t h=>(List.getElem?_eq_some_iff.1 h).1
         tr:=fun p s rs h=>by
          rcases look p s rs h with ⟨r,rs0,h1,h2,h3,h4⟩ | ⟨h1,rfl⟩
          ·rw [(eκ p r h1).1,(eκ p r h1).2]
           obtain⟨k1,k2⟩:=hI.tr _ _ _ h2
           refine⟨by omega,fun hk=>⟨(k2 hk).1,?_⟩⟩
           obtain⟨_,cs,e,g1,g2,g3,g4⟩:=k2 hk
           refine⟨cs,e,by rw [(eκ p r h1).2]; exact g1,by rw [(eκ p r h1).1]; exact g2,g3,fun i row hi=> ?_⟩
           obtain⟨m1,m2⟩:=g4 i row (h4 i row hi)
           refine⟨m1,fun j x hj=> ?_⟩
           obtain⟨c,m3,m4⟩:=m2 j x hj
           have:=eκ (p.sub i j) r h1
           refine⟨c,m3,?_⟩
           cases m4 with
           | sc h=>exact .sc h
           | dd u=>exact .dd _
           | sl q1 q2 q3=>exact .sl q1 (by rw [this.1]; exact q2) (by rw [this.2]; exact q3)
          ·rw [e0 p h1]
           exact⟨Nat.le_refl _,fun h=>absurd h (by omega)⟩
         inj:=fun p q s rs s' rs' h h' hk hk' he=>by
          rcases look p s rs h with ⟨r,rs0,h1,h2,_⟩ | ⟨h1,_⟩
          ·rcases look q s' rs' h' with ⟨r',rs0',h1',h2',_⟩ | ⟨h1',_⟩
           ·rw [(eκ p r h1).1] at hk
            rw [(eκ q r' h1').1] at hk'
            rw [(eκ p r h1).2,(eκ q r' h1').2] at he
            have:=hI.inj _ _ _ _ _ _ h2 h2' hk hk' he
            simp only [ap.mk.injEq] at this
            obtain⟨rfl,hl⟩:=this
            obtain⟨pr,pl⟩:=p
            obtain⟨qr,ql⟩:=q
            simp only at*
            rw [hl,hx.inj pr qr r h1 h1']
           ·rw [e0 q h1'] at hk'; omega
          ·rw [e0 p h1] at hk; omega
         bbinj:=fun n m c c' h=>by cases h
         bbtr:=fun n c p s rs h=>by cases h
         alt:=hI.alt
         atr:=fun p s rs h hk=>by
          rcases look p s rs h with ⟨r,rs0,h1,h2,_⟩ | ⟨h1,_⟩
          ·rw [(eκ p r h1).1] at hk
           rw [(eκ p r h1).2]
           exact hI.atr _ _ _ h2 hk
          ·rw [e0 p h1] at hk; omega
         abb:=fun n c h=>by cases h }
end
end Go.Proofs.YtkcgfceffffmoaaGreat.En
namespace Go.Proofs.YtkcgfceffffmoaaGreat.En
open Go Go.RowKit
section
variable {P:Program} {w0 w w':World} {W:Nat→Prop} {bt bt':Bt} {S0 S S':St} {a a':Act} {D:eI}
end
end Go.Proofs.YtkcgfceffffmoaaGreat.En
namespace Go.Proofs.YtkcgfceffffmoaaGreat.En
open Go Go.RowKit
section
variable {P:Program} {w0 w w':World} {W:Nat→Prop} {btI bt bt' bt0:Bt} {SI S S' S1:St} {a a':Act} {D:eI}
def eD (P:Program) (c:Code) (S:St) (Post:X→St→Prop):Prop:=
 ∀ ⦃w0:World⦄ ⦃W:Nat→Prop⦄ ⦃btI:Bt⦄ ⦃SI:St⦄ ⦃bt:Bt⦄ ⦃a:Act⦄ ⦃w:World⦄ ⦃Q:Exit→Act→World→Prop⦄,Lv w0 W btI SI bt S a w→
   (∀ x S' bt' a' w',Post x S'→Lv w0 W btI SI bt' S' a' w'→Q x.out a' w')→c.wp P Q a w
def i8 (P:Program) (ops:Array Oper) (l:List Oper) (S:St) (Post:St→Prop):Prop:=
 ∀ (k:Nat) ⦃w0:World⦄ ⦃W:Nat→Prop⦄ ⦃btI:Bt⦄ ⦃SI:St⦄ ⦃bt:Bt⦄ ⦃a:Act⦄ ⦃w:World⦄ ⦃Q:Exit→Act→World→Prop⦄,ops.toList.drop k=l→Lv w0 W btI SI bt S a w→
   (∀ S' bt' a' w',Post S'→Lv w0 W btI SI bt' S' a' w'→Q .normal a' w')→wpOps P ops Q (List.range' k l.length) a w
def gN (S S1:St):Prop:= ∀ ⦃w0:World⦄ ⦃W:Nat→Prop⦄ ⦃btI:Bt⦄ ⦃SI:St⦄ ⦃bt:Bt⦄ ⦃a:Act⦄ ⦃w:World⦄,Lv w0 W btI SI bt S a w→ ∃ bt1,Lv w0 W btI SI bt1 S1 a w
theorem gN.refl:gN S S:=by intro w0 W btI SI bt a w h; exact⟨_,h⟩
theorem gN.trans {S2:St} (h:gN S S1) (k:gN S1 S2):gN S S2:=by
 intro w0 W btI SI bt a w hl
 obtain⟨bt1,h1⟩:=h hl
 exact k h1
theorem eD.mono {c:Code} {Post Post':X→St→Prop} (h:eD P c S Post) (hp: ∀ x S,Post x S→ ∃ S',gN S S'∧Post' x S'):eD P c S Post':=by
 intro w0 W btI SI bt a w Q hl hK
 refine h hl (fun x S' bt' a' w' hP hl'=> ?_)
 obtain⟨S2,h1,h2⟩:=hp x S' hP
 obtain⟨bt2,h3⟩:=h1 hl'
 exact hK x S2 bt2 a' w' h2 h3
theorem eD.skip {Post:X→St→Prop} (h:Post .nor S):eD P .skip S Post:=by
 intro w0 W btI SI bt a w Q hl hK
 exact wp_skip (hK _ _ _ _ _ h hl)
theorem eD.exit {Post:X→St→Prop} {i:Nat} (h:Post (.ext i) S):eD P (.exit i) S Post:=by
 intro w0 W btI SI bt a w Q hl hK
 exact wp_exit (hK _ _ _ _ _ h hl)
theorem eD.ret {Post:X→St→Prop} (h:Post .ret S):eD P .ret S Post:=by
 intro w0 W btI SI bt a w Q hl hK
 exact wp_ret (hK _ _ _ _ _ h hl)
theorem eD.region {Post:X→St→Prop} {id:Nat} {ops:Array Oper} (h:i8 P ops ops.toList S (Post .nor)):eD P (.region id ops false) S Post:=by
 intro w0 W btI SI bt a w Q hl hK
 refine wp_region ?_
 have:=h 0 (Q:=Q) rfl hl (fun S' bt' a' w' hP hl'=>hK .nor S' bt' a' w' hP hl')
 rw [List.range_eq_range']
 simpa using this
theorem eD.seq {Post:X→St→Prop} {c d:Code} (h:eD P c S (fun x S1=>match x with | .nor=>eD P d S1 Post | x=>Post x S1)):eD P (.seq c d) S Post:=by
 intro w0 W btI SI bt a w Q hl hK
 refine wp_seq (h hl (fun x S1 bt' a' w' hP hl'=> ?_))
 cases x with
 | nor=>exact hP hl' hK
 | ret=>exact hK _ _ _ _ _ hP hl'
 | ext i=>exact hK _ _ _ _ _ hP hl'
theorem eD.cond {Post:X→St→Prop} {t:Operand} {c d:Code} {b:Bool} (hb:opd S t= .sc (.bool b)) (h:eD P (if b then c else d) S Post):eD P (.cond t c d) S Post:=by
 intro w0 W btI SI bt a w Q hl hK
 have hv:=ah hl.er t
 rw [hb] at hv
 refine wp_cond hv.inv_sc ?_
 cases b with
 | true=>exact h hl hK
 | false=>exact h hl hK
theorem eD.block {Post:X→St→Prop} {i:Nat} {c:Code} (h:eD P c S (fun x S1=>match x with | .ext j=>if j=i then Post .nor S1 else Post (.ext j) S1 | x=>Post x S1)):eD P (.block i c) S Post:=by
 intro w0 W btI SI bt a w Q hl hK
 refine wp_block (h hl (fun x S1 bt' a' w' hP hl'=> ?_))
 cases x with
 | nor=>exact hK _ _ _ _ _ hP hl'
 | ret=>exact hK _ _ _ _ _ hP hl'
 | ext j=>
   show Exit.inBlock i Q (.exit j) a' w'
   unfold Exit.inBlock
   simp only
   simp only at hP
   split
   ·rename_i hj
    rw [if_pos hj] at hP
    exact hK _ _ _ _ _ hP hl'
   ·rename_i hj
    rw [if_neg hj] at hP
    exact hK _ _ _ _ _ hP hl'
theorem eD.loop {Post:X→St→Prop} {c:Code} (I:Nat→St→Prop) (h: ∀ n S,I n S→eD P c S (fun x S1=>match x with | .nor=> ∃ m,m < n∧I m S1 | x=>Post x S1)) {n:Nat} (h0:I n S):eD P (.loop c) S Post:=by
 intro w0 W btI SI bt a w Q hl hK
 let J:Nat→Act→World→Prop:=fun n a w=> ∃ bt S,Lv w0 W btI SI bt S a w∧I n S
 classical
 refine wp_loop (fun a w=> ∃ n,J n a w) (fun a w=>if hx: ∃ n,J n a w then Classical.choose (hQ hx) else 0) ⟨n,bt,S,hl,h0⟩ (fun a w hx=> ?_)
 obtain⟨hj,hmin⟩:=Classical.choose_spec (hQ hx)
 generalize hnn:Classical.choose (hQ hx)=n at*
 simp only [dif_pos hx,hnn]
 obtain⟨bt,S,hl,hI⟩:=hj
 refine h n S hI hl (fun x S1 bt' a' w' hP hl'=> ?_)
 cases x with
 | nor=>
   obtain⟨m,hm,hI'⟩:=hP
   have hex: ∃ n,J n a' w':=⟨m,bt',S1,hl',hI'⟩
   refine⟨hex,?_⟩
   rw [dif_pos hex]
   exact Nat.lt_of_le_of_lt ((Classical.choose_spec (hQ hex)).2 m ⟨bt',S1,hl',hI'⟩) hm
 | ret=>exact hK _ _ _ _ _ hP hl'
 | ext i=>exact hK _ _ _ _ _ hP hl'
theorem i8.nil {Post:St→Prop} {ops:Array Oper} (h:Post S):i8 P ops [] S Post:=by
 intro k w0 W btI SI bt a w Q _ hl hK
 exact hK _ _ _ _ h hl
theorem i8.cons {Post:St→Prop} {ops:Array Oper} {o:Oper} {l:List Oper} {b:Bool} (hok:eP P o=true) (hb:hH S ops o=some b)
  (h:if b then ∃ D S1,iL P D∧one D P S o=some S1∧i8 P ops l S1 Post else ∃ S1,S.put o.dst (.tup [])=some S1∧i8 P ops l S1 Post):i8 P ops (o::l) S Post:=by
 intro k w0 W btI SI bt a w Q hd hl hK
 have hko:ops.toList[k]? =some o:=by
  have:=congrArg (fun x:List Oper=>x[0]?) hd
  simpa [List.getElem?_drop] using this
 have hko':ops[k]? =some o:=by simpa using hko
 have hd':ops.toList.drop (k+1)=l:=by
  rw [←List.drop_drop,hd]
  rfl
 have hw:=ew hl.er hb
 simp only [List.length_cons,List.range'_succ]
 unfold wpOps
 rw [hko']
 simp only
 cases b with
 | true=>
   simp only [if_true] at h
   obtain⟨D,S1,hD,h1,h2⟩:=h
   rw [hw,if_pos rfl]
   exact .inl (iT hD hl hok h1 (fun bt' a' w' h'=>h2 (k+1) hd' h' hK))
 | false=>
   simp only [Bool.false_eq_true,if_false] at h
   obtain⟨S1,h1,h2⟩:=h
   rw [hw,if_neg (by simp)]
   exact h2 (k+1) hd' (hl.put iR h1) hK
end
end Go.Proofs.YtkcgfceffffmoaaGreat.En
namespace Go.Proofs.YtkcgfceffffmoaaGreat.En
open Go Go.RowKit
section
variable {P:Program} {w0 w w':World} {W:Nat→Prop} {bt btn:Bt} {S:St} {a:Act} {A:Nat→Prop}
structure jv (bt:Bt) (S:St) (A:Nat→Prop):Prop where
 h1: ∀ b,bt.A b→A b
 h2: ∀ p s rs,S.look p= .sl s rs→0 < bt.κ p→A (bt.β p)
 h3: ∀ n cs,S.bx n=some cs→A (bt.bb n)
theorem jv.le (h:jv bt S A):bt.le { bt with A:=A } :=⟨Nat.le_refl _,Nat.le_refl _,h.h1,fun _ _=>rfl,fun _ _=>rfl,fun _ _=>rfl⟩
def jR (P:Program) (f:FuncId) (args:List AV) (gs:List T) (m:Nat) (res:AV) (out:List T):Prop:=
 ∀ (w:World) (W:Nat→Prop) (bt0:Bt) (vals:List Value),aH w W bt0 (dz gs) w→vals.length=args.length→(∀ (k:Nat) (v:AV) (u:Value),args[k]? =some v→vals[k]? =some u→VR w bt0 v u)→
   (callFunc f vals.toArray).run P w= .ok (.enter f vals.toArray) w∧
   Calls P f vals.toArray w fun e w'=> ∃ v btn,e= .returned v∧aH w W btn (dz out) w'∧m≤out.length∧(∀ p:ap,p.r < m→btn.β p=bt0.β p∧btn.κ p=bt0.κ p)∧VR w' btn res v
def AV.plain:AV→Bool
 | .sc _=>true
 | .tup [] =>true
 | _=>false
theorem VR.plain {bt':Bt} {v:AV} {u:Value} (h:VR w bt v u) (hp:v.plain=true):VR w bt' v u:=by
 cases h with
 | sc h=>exact .sc h
 | tup hl h=>
   rename_i cs us
   cases cs with
   | nil=>exact .tup hl (fun k c u h1=>by simp at h1)
   | cons c cs=>cases hp
 | _=>cases hp
theorem gl (hI:aH w0 W bt S w) (hE:ER w bt S a) {t el:TypeId} {z:Value} (hel:fC P t=some el) (hze:gG P el=some [z]) (hsc:c6 z=true) {r lo len:Nat} {rows:List (List T)} {u:Value} (hv:VR w bt (.own ⟨r,[]⟩ 1 lo len) u) (hr:S.gh r=some (.sl 1 rows)) (hle:lo+len≤rows.length) (ty:TypeId):
  ∃ w',(Builtin.clear_ #[t] ty #[u]).run P w= .ok (.tuple #[]) w'∧bg w0 W bt S a bt { S with gh:=aJ S.gh r (some (.sl 1 (rows.take lo++List.replicate len [.sc z] ++rows.drop (lo+len)))) } w':=by
 have hlook:S.look ⟨r,[]⟩= .sl 1 rows:=by unfold St.look; simp only [hr]; rfl
 obtain⟨ti,zv,hi,hz,hzc,hzo⟩:=cG hze
 have same: ({ S with gh:=aJ S.gh r (some (.sl 1 rows)) }:St)=S:=by
  have :aJ S.gh r (some (.sl 1 rows))=S.gh:=by
   funext k
   unfold aJ
   split
   ·rename_i e; rw [e,hr]
   ·rfl
  rw [this]
 cases hv with
 | own hp hc hk ha=>
   rename_i ad cap
   rcases Nat.eq_zero_or_pos len with h0 | h0
   ·subst h0
    refine⟨w,by cases ad <;> simp [Builtin.clear_,run_underlying (bD hel)],?_⟩
    have :rows.take lo++List.replicate 0 [T.sc z] ++rows.drop (lo+0)=rows:=by simp
    rw [this,same]
    exact⟨hI,hE,rfl,trivial,Nat.le_refl _,fun _ _=>⟨rfl,rfl⟩,fun _ _ h=>h⟩
   ·have had:=ha (by omega)
    subst had
    obtain⟨hlen,hrest⟩:=hI.tr _ _ _ hlook
    have hk0:0 < bt.κ ⟨r,[]⟩:=by omega
    obtain⟨_,arr,e,hh,hκs,hone,hcell⟩:=hrest hk0
    have hcz:Builtin.zeroCells zv.cells len=(List.replicate len z).toArray:=by
     have hzs:zv.cells= #[z] :=by apply Array.ext'; exact hzc.symm
     rw [hzs]
     apply Array.ext
     ·simp [Builtin.zeroCells]
     ·intro k h1 h2
      simp [Builtin.zeroCells,Nat.mod_one]
    have hz1:z.oneCell'=true:=by
     have:=List.all_eq_true.1 hzo z (by rw [←hzc]; exact List.mem_singleton.2 rfl)
     exact this
    have hst:=run_storeCells_at P (bt.β ⟨r,[]⟩) (lo*1) e (List.replicate len z) 0 arr w hh (by simp; omega) (fun v hv=>by rw [(List.mem_replicate.1 hv).2]; exact hz1)
    generalize hcs: (arr.toList.take (lo*1+0)++List.replicate len z++arr.toList.drop (lo*1+0+(List.replicate len z).length)).toArray=cs at hst
    have hcs': ∀ k,cs[k]? =if k < lo then arr[k]? else if k < lo+len then some z else arr[k]? :=by
     intro k
     have:=cc arr.toList (List.replicate len z) lo (by simp; omega) k
     rw [←hcs]
     simp only [List.length_replicate,Nat.mul_one,Nat.add_zero] at this ⊢
     simp only [List.getElem?_toArray,this,Array.getElem?_toList]
     by_cases q1:k < lo
     ·rw [if_pos q1,if_pos q1]
     ·rw [if_neg q1,if_neg q1]
      by_cases q2:k < lo+len
      ·rw [if_pos q2,if_pos q2,List.getElem?_replicate,if_pos (by omega)]
      ·rw [if_neg q2,if_neg q2]
    have hsize:cs.size=arr.size:=by
     rw [←hcs]
     simp
     omega
    have hrg: ∀ i,(rows.take lo++List.replicate len [T.sc z] ++rows.drop (lo+len))[i]? =if i < lo then rows[i]? else if i < lo+len then some [T.sc z] else rows[i]? :=by
     intro i
     have:=cc rows (List.replicate len [T.sc z]) lo (by simp; omega) i
     simp only [List.length_replicate] at this
     rw [this]
     by_cases q1:i < lo
     ·rw [if_pos q1,if_pos q1]
     ·rw [if_neg q1,if_neg q1]
      by_cases q2:i < lo+len
      ·rw [if_pos q2,if_pos q2,List.getElem?_replicate,if_pos (by omega)]
      ·rw [if_neg q2,if_neg q2]
    obtain⟨hI',hA⟩:=hI.setTree (rows:=rows.take lo++List.replicate len [.sc z] ++rows.drop (lo+len)) (cs:=cs) hlook hk0 hh hsize
     (fun k x hk=>by
       rw [hcs'] at hk
       split at hk
       ·exact hone _ _ hk
       ·split at hk
        ·simp only [Option.some.injEq] at hk
         rw [←hk]
         exact hz1
        ·exact hone _ _ hk)
     (by simp; omega)
     (fun i row hrow=>by
       rw [hrg] at hrow
       have old:rows[i]? =some row→(∀ k,k < 1→ ¬ (lo≤i∧i < lo+len))→row.length=1∧ ∀ (j:Nat) (x:T),row[j]? =some x→(∃ c,cs[i*1+j]? =some c∧HR bt ((⟨r,[]⟩:ap).sub i j) x c)∧((∃ v,x= .sc v)∨x= .dd∨ ∃ r0,rows[i]? =some r0∧r0[j]? =some x):=by
        intro h1 h2
        obtain⟨k1,k2⟩:=hcell i row h1
        refine⟨k1,fun j x hx=>⟨?_, .inr (.inr ⟨row,h1,hx⟩)⟩⟩
        obtain⟨c,m1,m2⟩:=k2 j x hx
        have hj:j < row.length:=(List.getElem?_eq_some_iff.1 hx).1
        refine⟨c,?_,m2⟩
        have:=h2 0 Nat.zero_lt_one
        rw [hcs']
        by_cases q1:i*1+j < lo
        ·rw [if_pos q1]; exact m1
        ·rw [if_neg q1,if_neg (by omega)]; exact m1
       by_cases q1:i < lo
       ·rw [if_pos q1] at hrow
        exact old hrow (fun _ _=>by omega)
       ·rw [if_neg q1] at hrow
        by_cases q2:i < lo+len
        ·rw [if_pos q2] at hrow
         simp only [Option.some.injEq] at hrow
         subst hrow
         refine⟨rfl,fun j x hx=> ?_⟩
         cases j with
         | zero=>
           simp only [List.getElem?_cons_zero,Option.some.injEq] at hx
           subst hx
           exact⟨⟨z,by rw [hcs',if_neg (by omega),if_pos (by omega)], .sc hsc⟩, .inl ⟨z,rfl⟩⟩
         | succ j=>simp at hx
        ·rw [if_neg q2] at hrow
         exact old hrow (fun _ _=>by omega))
    have hset:S.setAt ⟨r,[]⟩ (.sl 1 (rows.take lo++List.replicate len [.sc z] ++rows.drop (lo+len)))= { S with gh:=aJ S.gh r (some (.sl 1 (rows.take lo++List.replicate len [.sc z] ++rows.drop (lo+len)))) } :=by
     unfold St.setAt
     simp only [hr,Option.map_some]
     rfl
    rw [hset] at hI'
    refine⟨_,?_,⟨hI',⟨hE.1,fun t=>(hE.2 t).mono (Bt.le.refl _) hA⟩,rfl,trivial,Nat.le_refl _,fun _ _=>⟨rfl,rfl⟩,fun k hk hn=> ?_⟩⟩
    ·obtain⟨n,rfl⟩: ∃ n,len=n+1:=⟨len - 1,by omega⟩
     rw [Nat.mul_one] at hst
     simp [Builtin.clear_,run_underlying (bD hel),zeroValue,typeInfo,hi,hz,hcz,hst]
    ·have hn':aJ S.gh r (some (.sl 1 (rows.take lo++List.replicate len [.sc z] ++rows.drop (lo+len)))) k=none:=hn
     unfold aJ at hn'
     split at hn'
     ·cases hn'
     ·exact hn'
theorem i8.clear {Post:St→Prop} {ops:Array Oper} {o:Oper} {l:List Oper} {x:Operand} {t el:TypeId} {z:Value} (ho:o.op= .call { callee:= .builtin .clear,args:= #[x],argTypes:= #[t] }) (hgd:o.guard=none) (hel:fC P t=some el) (hze:gG P el=some [z]) (hsc:c6 z=true)
  {r lo len:Nat} {rows:List (List T)} (hx:opd S x= .own ⟨r,[]⟩ 1 lo len) (hr:S.gh r=some (.sl 1 rows)) (hle:lo+len≤rows.length)
  (h: ∃ S1,({ S with gh:=aJ S.gh r (some (.sl 1 (rows.take lo++List.replicate len [.sc z] ++rows.drop (lo+len)))) }:St).put o.dst (.tup [])=some S1∧i8 P ops l S1 Post):i8 P ops (o::l) S Post:=by
 intro k w0 W btI SI bt a w Q hd hl hK
 have hko:ops.toList[k]? =some o:=by
  have:=congrArg (fun x:List Oper=>x[0]?) hd
  simpa [List.getElem?_drop] using this
 have hko':ops[k]? =some o:=by simpa using hko
 have hd':ops.toList.drop (k+1)=l:=by
  rw [←List.drop_drop,hd]
  rfl
 have hw:=ew (ops:=ops) (o:=o) (b:=true) hl.er (by unfold hH; rw [hgd])
 have hv:=ah hl.er x
 rw [hx] at hv
 obtain⟨w',g1,g2⟩:=gl hl.inv hl.er hel hze hsc hv hr hle o.type
 have hrun: (execOp a.eval o).run P w= .ok (.value (.tuple #[])) w':=by
  obtain⟨dst,op,type,pos,after,guard⟩:=o
  simp only at ho
  subst ho
  simp [execOp,resolve,invoke,builtin,g1]
 simp only [List.length_cons,List.range'_succ]
 unfold wpOps
 rw [hko']
 simp only
 rw [hw,if_pos rfl]
 left
 unfold Oper.wp
 rw [hrun,Oper.upon_value]
 obtain⟨S1,k1,k2⟩:=h
 exact k2 (k+1) hd' ((hl.left g2).put (.tup rfl (fun k c u h=>by simp at h)) k1) hK
end
end Go.Proofs.YtkcgfceffffmoaaGreat.En
namespace Go.Proofs.YtkcgfceffffmoaaGreat.En
open Go Go.RowKit
section
variable {P:Program} {w0 w w':World} {W:Nat→Prop} {bt btn:Bt} {S Sm Sp:St} {a:Act} {ps:List ap} {ts out:List T}
structure ji (S:St) (ps:List ap) (ts:List T):Prop where
 len:ts.length=ps.length
 here: ∀ (k:Nat) (p:ap),ps[k]? =some p→ ∃ s rows,ts[k]? =some (.sl s rows)∧S.look p= .sl s rows
 apart: ∀ (k k':Nat) (p p':ap) (l l':List (Nat×Nat)),ps[k]? =some p→ps[k']? =some p'→p.r=p'.r→p.l++l=p'.l++l'→k=k'
theorem ji.look (hG:ji S ps ts) {q:ap} {s:Nat} {rs:List (List T)} (h: (dz ts).look q= .sl s rs): ∃ p,ps[q.r]? =some p∧S.look ⟨p.r,p.l++q.l⟩= .sl s rs:=by
 unfold St.look dz at h
 simp only at h
 cases ht:ts[q.r]? with
 | none=>rw [ht] at h; cases h
 | some t=>
   rw [ht] at h
   simp only at h
   have hlt:q.r < ps.length:=by rw [←hG.len]; exact (List.getElem?_eq_some_iff.1 ht).1
   have hp:ps[q.r]? =some ps[q.r] :=List.getElem?_eq_getElem hlt
   obtain⟨s0,rows0,h1,h2⟩:=hG.here _ _ hp
   rw [ht] at h1
   cases h1
   refine⟨_,hp,?_⟩
   unfold St.look at h2 ⊢
   cases hg:S.gh (ps[q.r]).r with
   | none=>rw [hg] at h2; cases h2
   | some t0=>
     rw [hg] at h2
     simp only at h2 ⊢
     rw [T.go_append,h2]
     exact h
theorem ji.inj (hG:ji S ps ts) {q q' p p':ap} (h:ps[q.r]? =some p) (h':ps[q'.r]? =some p') (he: (⟨p.r,p.l++q.l⟩:ap)=⟨p'.r,p'.l++q'.l⟩):q=q':=by
 simp only [ap.mk.injEq] at he
 have hk:=hG.apart _ _ _ _ _ _ h h' he.1 he.2
 obtain⟨qr,ql⟩:=q
 obtain⟨qr',ql'⟩:=q'
 simp only at hk h h' he
 subst hk
 rw [h] at h'
 cases h'
 rw [List.append_cancel_left he.2]
structure kE (S Sm:St) (ps:List ap):Prop where
 env:Sm.env=S.env
 bx:Sm.bx=S.bx
 nt:Sm.nt=S.nt
 look: ∀ (q:ap) (s:Nat) (rs:List (List T)),Sm.look q= .sl s rs→(∀ p∈ps,¬ c8 p q)∧ ∃ rs0,S.look q= .sl s rs0
structure kF (S Sp:St) (ps:List ap) (out:List T):Prop where
 env:Sp.env=S.env
 bx:Sp.bx=S.bx
 nb:Sp.nb=S.nb
 ng:Sp.ng=S.ng
 fz:Sp.fz=S.fz
 nt:Sp.nt=S.nt
 gh: ∀ (r:Nat) (t:T),Sp.gh r=some t→ ∃ t0,S.gh r=some t0
 gone: ∀ r,Sp.gh r=none→S.gh r=none
 look: ∀ (q:ap) (s:Nat) (rs:List (List T)),Sp.look q= .sl s rs→(∃ k p l,ps[k]? =some p∧q=⟨p.r,p.l++l⟩∧(dz out).look ⟨k,l⟩= .sl s rs)∨
  ((∀ p∈ps,¬ c8 p q)∧ ∃ rs0,S.look q= .sl s rs0∧rs.length=rs0.length∧ ∀ (i:Nat) (r:List T),rs[i]? =some r→ ∃ r0,rs0[i]? =some r0∧r.length=r0.length∧
    ∀ (j:Nat) (y:T),r[j]? =some y→ ∃ y0,r0[j]? =some y0∧(y=y0∨ ∃ s1 ra rb,y= .sl s1 ra∧y0= .sl s1 rb∧ra.length=rb.length))
end
end Go.Proofs.YtkcgfceffffmoaaGreat.En
namespace Go.Proofs.YtkcgfceffffmoaaGreat.En
open Go
structure Op where
 client:Int
 seq:Int
 kind:Int
 object:Int
 old:Int
 value:Int
 deriving DecidableEq,Inhabited
structure Result where
 done:Bool
 value:Int
 deriving DecidableEq,Inhabited
structure fQ where
 client:Int
 seq:Int
 result:Result
 deriving DecidableEq,Inhabited
structure fR where
 objects:List Int
 sessions:List fQ
 deriving DecidableEq,Inhabited
structure cW where
 epoch:Int
 op:Op
 deriving DecidableEq,Inhabited
structure gm where
 count:Int
 digest:Int
 machine:fR
 deriving DecidableEq,Inhabited
structure au where
 epoch:Int
 primary:Int
 replicas:List Int
 witnesses:List Int
 deriving DecidableEq,Inhabited
structure dV where
 rack:Int
 capacity:Int
 load:Int
 deriving DecidableEq,Inhabited
structure bo where
 configs:List au
 activated:Int
 deriving DecidableEq,Inhabited
structure gn where
 epoch:Int
 holder:Int
 ends:Int
 deriving DecidableEq,Inhabited
structure eS where
 up:Bool
 intact:Bool
 version:Int
 epoch:Int
 config:au
 first:Int
 log:List cW
 commit:Int
 learned:List cW
 deriving DecidableEq,Inhabited
structure fS where
 now:Int
 servers:List eS
 sides:List Int
 master:bo
 masterUp:Int
 lease:gn
 places:List dV
 deriving DecidableEq,Inhabited
structure jw where
 code:Int
 result:Result
 index:Int
 deriving DecidableEq,Inhabited
structure kB where
 op:Op
 index:Int
 deriving DecidableEq,Inhabited
structure jx where
 kind:Int
 server:Int
 other:Int
 n:Int
 op:Op
 deriving DecidableEq,Inhabited
structure j8 where
 start:Int
 event:Int
 read:Bool
 index:Int
 value:Int
 op:Op
 deriving DecidableEq,Inhabited
inductive Sn where
 | op | result | session | machine | entry | snapshot | config | place | masterLog | lease | server | cluster | reply | ack | event | mark
 deriving DecidableEq,Inhabited
abbrev Sn.D:Sn→Type
 | .op=>Op
 | .result=>Result
 | .session=>fQ
 | .machine=>fR
 | .entry=>cW
 | .snapshot=>gm
 | .config=>au
 | .place=>dV
 | .masterLog=>bo
 | .lease=>gn
 | .server=>eS
 | .cluster=>fS
 | .reply=>jw
 | .ack=>kB
 | .event=>jx
 | .mark=>j8
inductive Ty where | i (k:IntKind) | b | s | st (n:Sn) | ls (t:Ty)
 deriving DecidableEq,Inhabited
abbrev Ty.D:Ty→Type
 | .i _=>Int | .b=>Bool | .s=>ByteArray | .st n=>n.D | .ls t=>List t.D
inductive C where | sc (v:Value) | ls (t:Ty) (l:List t.D)
 deriving Inhabited
def Sn.flat: (n:Sn)→n.D→List C
 | .op,x=> [.sc (.int .i64 x.client), .sc (.int .i64 x.seq), .sc (.int .i64 x.kind), .sc (.int .i64 x.object), .sc (.int .i64 x.old), .sc (.int .i64 x.value)]
 | .result,x=> [.sc (.bool x.done), .sc (.int .i64 x.value)]
 | .session,x=> [.sc (.int .i64 x.client), .sc (.int .i64 x.seq), .sc (.bool x.result.done), .sc (.int .i64 x.result.value)]
 | .machine,x=> [.ls (.i .i64) x.objects, .ls (.st .session) x.sessions]
 | .entry,x=> [.sc (.int .i64 x.epoch), .sc (.int .i64 x.op.client), .sc (.int .i64 x.op.seq), .sc (.int .i64 x.op.kind), .sc (.int .i64 x.op.object), .sc (.int .i64 x.op.old), .sc (.int .i64 x.op.value)]
 | .snapshot,x=> [.sc (.int .i64 x.count), .sc (.int .i64 x.digest), .ls (.i .i64) x.machine.objects, .ls (.st .session) x.machine.sessions]
 | .config,x=> [.sc (.int .i64 x.epoch), .sc (.int .i64 x.primary), .ls (.i .i64) x.replicas, .ls (.i .i64) x.witnesses]
 | .place,x=> [.sc (.int .i64 x.rack), .sc (.int .i64 x.capacity), .sc (.int .i64 x.load)]
 | .masterLog,x=> [.ls (.st .config) x.configs, .sc (.int .i64 x.activated)]
 | .lease,x=> [.sc (.int .i64 x.epoch), .sc (.int .i64 x.holder), .sc (.int .i64 x.ends)]
 | .server,x=> [.sc (.bool x.up), .sc (.bool x.intact), .sc (.int .i64 x.version), .sc (.int .i64 x.epoch), .sc (.int .i64 x.config.epoch), .sc (.int .i64 x.config.primary), .ls (.i .i64) x.config.replicas, .ls (.i .i64) x.config.witnesses, .sc (.int .i64 x.first), .ls (.st .entry) x.log, .sc (.int .i64 x.commit), .ls (.st .entry) x.learned]
 | .cluster,x=> [.sc (.int .i64 x.now), .ls (.st .server) x.servers, .ls (.i .i64) x.sides, .ls (.st .config) x.master.configs, .sc (.int .i64 x.master.activated), .sc (.int .i64 x.masterUp), .sc (.int .i64 x.lease.epoch), .sc (.int .i64 x.lease.holder), .sc (.int .i64 x.lease.ends), .ls (.st .place) x.places]
 | .reply,x=> [.sc (.int .i64 x.code), .sc (.bool x.result.done), .sc (.int .i64 x.result.value), .sc (.int .i64 x.index)]
 | .ack,x=> [.sc (.int .i64 x.op.client), .sc (.int .i64 x.op.seq), .sc (.int .i64 x.op.kind), .sc (.int .i64 x.op.object), .sc (.int .i64 x.op.old), .sc (.int .i64 x.op.value), .sc (.int .i64 x.index)]
 | .event,x=> [.sc (.int .i64 x.kind), .sc (.int .i64 x.server), .sc (.int .i64 x.other), .sc (.int .i64 x.n), .sc (.int .i64 x.op.client), .sc (.int .i64 x.op.seq), .sc (.int .i64 x.op.kind), .sc (.int .i64 x.op.object), .sc (.int .i64 x.op.old), .sc (.int .i64 x.op.value)]
 | .mark,x=> [.sc (.int .i64 x.start), .sc (.int .i64 x.event), .sc (.bool x.read), .sc (.int .i64 x.index), .sc (.int .i64 x.value), .sc (.int .i64 x.op.client), .sc (.int .i64 x.op.seq), .sc (.int .i64 x.op.kind), .sc (.int .i64 x.op.object), .sc (.int .i64 x.op.old), .sc (.int .i64 x.op.value)]
def Ty.flat: (t:Ty)→t.D→List C
 | .i k,n=> [.sc (.int k n)] | .b,v=> [.sc (.bool v)] | .s,v=> [.sc (.string v)] | .st n,x=>n.flat x | .ls t,l=> [.ls t l]
def Sn.width:Sn→Nat
 | .op=>6 | .result=>2 | .session=>4 | .machine=>2 | .entry=>7 | .snapshot=>4 | .config=>4 | .place=>3 | .masterLog=>2 | .lease=>3 | .server=>12 | .cluster=>10 | .reply=>4 | .ack=>7 | .event=>10 | .mark=>11
def Ty.width:Ty→Nat | .st n=>n.width | _=>1
def Sn.csh:Sn→List (Option Ty)
 | .op=> [none,none,none,none,none,none]
 | .result=> [none,none]
 | .session=> [none,none,none,none]
 | .machine=> [some (.i .i64),some (.st .session)]
 | .entry=> [none,none,none,none,none,none,none]
 | .snapshot=> [none,none,some (.i .i64),some (.st .session)]
 | .config=> [none,none,some (.i .i64),some (.i .i64)]
 | .place=> [none,none,none]
 | .masterLog=> [some (.st .config),none]
 | .lease=> [none,none,none]
 | .server=> [none,none,none,none,none,none,some (.i .i64),some (.i .i64),none,some (.st .entry),none,some (.st .entry)]
 | .cluster=> [none,some (.st .server),some (.i .i64),some (.st .config),none,none,none,none,none,some (.st .place)]
 | .reply=> [none,none,none,none]
 | .ack=> [none,none,none,none,none,none,none]
 | .event=> [none,none,none,none,none,none,none,none,none,none]
 | .mark=> [none,none,none,none,none,none,none,none,none,none,none]
def Ty.csh:Ty→List (Option Ty) | .st n=>n.csh | .ls t=> [some t] | _=> [none]
def Sn.zvs:Sn→List Value
 | .op=> [.int .i64 0, .int .i64 0, .int .i64 0, .int .i64 0, .int .i64 0, .int .i64 0]
 | .result=> [.bool false, .int .i64 0]
 | .session=> [.int .i64 0, .int .i64 0, .bool false, .int .i64 0]
 | .machine=> [.slice none 0 0, .slice none 0 0]
 | .entry=> [.int .i64 0, .int .i64 0, .int .i64 0, .int .i64 0, .int .i64 0, .int .i64 0, .int .i64 0]
 | .snapshot=> [.int .i64 0, .int .i64 0, .slice none 0 0, .slice none 0 0]
 | .config=> [.int .i64 0, .int .i64 0, .slice none 0 0, .slice none 0 0]
 | .place=> [.int .i64 0, .int .i64 0, .int .i64 0]
 | .masterLog=> [.slice none 0 0, .int .i64 0]
 | .lease=> [.int .i64 0, .int .i64 0, .int .i64 0]
 | .server=> [.bool false, .bool false, .int .i64 0, .int .i64 0, .int .i64 0, .int .i64 0, .slice none 0 0, .slice none 0 0, .int .i64 0, .slice none 0 0, .int .i64 0, .slice none 0 0]
 | .cluster=> [.int .i64 0, .slice none 0 0, .slice none 0 0, .slice none 0 0, .int .i64 0, .int .i64 0, .int .i64 0, .int .i64 0, .int .i64 0, .slice none 0 0]
 | .reply=> [.int .i64 0, .bool false, .int .i64 0, .int .i64 0]
 | .ack=> [.int .i64 0, .int .i64 0, .int .i64 0, .int .i64 0, .int .i64 0, .int .i64 0, .int .i64 0]
 | .event=> [.int .i64 0, .int .i64 0, .int .i64 0, .int .i64 0, .int .i64 0, .int .i64 0, .int .i64 0, .int .i64 0, .int .i64 0, .int .i64 0]
 | .mark=> [.int .i64 0, .int .i64 0, .bool false, .int .i64 0, .int .i64 0, .int .i64 0, .int .i64 0, .int .i64 0, .int .i64 0, .int .i64 0, .int .i64 0]
def Ty.zvs:Ty→List Value | .i k=> [.int k 0] | .b=> [.bool false] | .s=> [.string ByteArray.empty] | .st n=>n.zvs | .ls _=> [.slice none 0 0]
def j9 (x:Op):List T:= [.sc (.int .i64 x.client), .sc (.int .i64 x.seq), .sc (.int .i64 x.kind), .sc (.int .i64 x.object), .sc (.int .i64 x.old), .sc (.int .i64 x.value)]
def ii (x:Result):List T:= [.sc (.bool x.done), .sc (.int .i64 x.value)]
def dM (x:fQ):List T:= [.sc (.int .i64 x.client), .sc (.int .i64 x.seq), .sc (.bool x.result.done), .sc (.int .i64 x.result.value)]
def gO (x:fR):List T:= [.sl 1 (x.objects.map fun n=> [.sc (.int .i64 n)]), .sl 4 (x.sessions.map dM)]
def eT (x:cW):List T:= [.sc (.int .i64 x.epoch), .sc (.int .i64 x.op.client), .sc (.int .i64 x.op.seq), .sc (.int .i64 x.op.kind), .sc (.int .i64 x.op.object), .sc (.int .i64 x.op.old), .sc (.int .i64 x.op.value)]
def gp (x:gm):List T:= [.sc (.int .i64 x.count), .sc (.int .i64 x.digest), .sl 1 (x.machine.objects.map fun n=> [.sc (.int .i64 n)]), .sl 4 (x.machine.sessions.map dM)]
def eh (x:au):List T:= [.sc (.int .i64 x.epoch), .sc (.int .i64 x.primary), .sl 1 (x.replicas.map fun n=> [.sc (.int .i64 n)]), .sl 1 (x.witnesses.map fun n=> [.sc (.int .i64 n)])]
def gq (x:dV):List T:= [.sc (.int .i64 x.rack), .sc (.int .i64 x.capacity), .sc (.int .i64 x.load)]
def fT (x:bo):List T:= [.sl 4 (x.configs.map eh), .sc (.int .i64 x.activated)]
def iU (x:gn):List T:= [.sc (.int .i64 x.epoch), .sc (.int .i64 x.holder), .sc (.int .i64 x.ends)]
def fv (x:eS):List T:= [.sc (.bool x.up), .sc (.bool x.intact), .sc (.int .i64 x.version), .sc (.int .i64 x.epoch), .sc (.int .i64 x.config.epoch), .sc (.int .i64 x.config.primary), .sl 1 (x.config.replicas.map fun n=> [.sc (.int .i64 n)]), .sl 1 (x.config.witnesses.map fun n=> [.sc (.int .i64 n)]), .sc (.int .i64 x.first), .sl 7 (x.log.map eT), .sc (.int .i64 x.commit), .sl 7 (x.learned.map eT)]
def gP (x:fS):List T:= [.sc (.int .i64 x.now), .sl 12 (x.servers.map fv), .sl 1 (x.sides.map fun n=> [.sc (.int .i64 n)]), .sl 4 (x.master.configs.map eh), .sc (.int .i64 x.master.activated), .sc (.int .i64 x.masterUp), .sc (.int .i64 x.lease.epoch), .sc (.int .i64 x.lease.holder), .sc (.int .i64 x.lease.ends), .sl 3 (x.places.map gq)]
def iV (x:jw):List T:= [.sc (.int .i64 x.code), .sc (.bool x.result.done), .sc (.int .i64 x.result.value), .sc (.int .i64 x.index)]
def jS (x:kB):List T:= [.sc (.int .i64 x.op.client), .sc (.int .i64 x.op.seq), .sc (.int .i64 x.op.kind), .sc (.int .i64 x.op.object), .sc (.int .i64 x.op.old), .sc (.int .i64 x.op.value), .sc (.int .i64 x.index)]
def iW (x:jx):List T:= [.sc (.int .i64 x.kind), .sc (.int .i64 x.server), .sc (.int .i64 x.other), .sc (.int .i64 x.n), .sc (.int .i64 x.op.client), .sc (.int .i64 x.op.seq), .sc (.int .i64 x.op.kind), .sc (.int .i64 x.op.object), .sc (.int .i64 x.op.old), .sc (.int .i64 x.op.value)]
def jj (x:j8):List T:= [.sc (.int .i64 x.start), .sc (.int .i64 x.event), .sc (.bool x.read), .sc (.int .i64 x.index), .sc (.int .i64 x.value), .sc (.int .i64 x.op.client), .sc (.int .i64 x.op.seq), .sc (.int .i64 x.op.kind), .sc (.int .i64 x.op.object), .sc (.int .i64 x.op.old), .sc (.int .i64 x.op.value)]
def Sn.row: (n:Sn)→n.D→List T
 | .op,x=>j9 x
 | .result,x=>ii x
 | .session,x=>dM x
 | .machine,x=>gO x
 | .entry,x=>eT x
 | .snapshot,x=>gp x
 | .config,x=>eh x
 | .place,x=>gq x
 | .masterLog,x=>fT x
 | .lease,x=>iU x
 | .server,x=>fv x
 | .cluster,x=>gP x
 | .reply,x=>iV x
 | .ack,x=>jS x
 | .event,x=>iW x
 | .mark,x=>jj x
def Ty.row: (t:Ty)→t.D→List T
 | .i k,n=> [.sc (.int k n)] | .b,v=> [.sc (.bool v)] | .s,v=> [.sc (.string v)] | .st n,x=>n.row x | .ls t,l=> [.sl t.width (l.map t.row)]
def C.tree:C→T | .sc v=> .sc v | .ls t l=> .sl t.width (l.map t.row)
def C.good:C→Bool | .sc v=>c6 v | .ls _ _=>true
end Go.Proofs.YtkcgfceffffmoaaGreat.En
