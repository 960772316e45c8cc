/- Plain laws. -/
import Derived.Test.YtkghndikalnipacGreatZPHistE
set_option linter.unusedSimpArgs false
set_option linter.unusedVariables false
namespace Go.Proofs.YtkghndikalnipacGreat.En
open Go
section
theorem RJ(a b:List rj)(ha:a.length<=maxLen): ∃n:Nat,Hz a b=some ((n:Int),())/\n<=a.length/\n<=b.length/\a.take n=b.take n/\(n<a.length->n<b.length->a[n]? ≠b[n]?):=by
 rcases JI (B:=Gf) a.length (λk=>((a,b,(k:Int),()),(),())) ((((a.length:Nat):Int),()),(),()) (λk=>(((k:Int),()),(),())) (λk=>decide (a[k]? ≠b[k]?))
  (by simp only[Gf];rw[CY,if_neg (by omega)])
  (λk hk=>by
    have c1: (k:Int)< (a.length:Int):=by omega
    have c2: (0:Int)<=(k:Int):=by omega
    by_cases hk':k<b.length
    ·have c3: (k:Int)< (b.length:Int):=by omega
     simp only[Gf,WG,CY,BX,if_pos c1,if_pos c2,if_pos c3,DC,aq hk,aq hk',ao,BG ha hk];by_cases h:a[k] =b[k]<;>simp[h]
    ·have c3: ¬ (k:Int)< (b.length:Int):=by omega
     simp only[Gf,CY,if_pos c1,if_neg c3,aq hk,cx (show b.length<=k by omega)];simp) with ⟨k1,k2⟩| ⟨i,hi,k1,k2,k3⟩
 ·have eq: ∀k,k<a.length->a[k]? =b[k]? :=λk hk=>by simpa using k2 k hk
  have hl:a.length<=b.length:=by
   rcases bn a.length with h|h
   ·omega
   ·have:=eq (a.length-1) (by omega);rw[aq (by omega)] at this;have:=C5 this.symm;omega
  refine⟨a.length,?_,ay _,hl,?_,λh=>absurd h (dA _)⟩
  ·unfold Hz;rw[show J5 ((a,b,0,()),(),())=_ from k1];rfl
  ·refine bz λk=> ?_;rw[bk,bk];split
   ·exact eq k (by assumption)
   ·rfl
 ·have eq: ∀k,k<i->a[k]? =b[k]? :=λk hk=>by simpa using k3 k hk
  have hl:i<=b.length:=by
   rcases bn i with h|h
   ·omega
   ·have:=eq (i-1) (by omega);rw[aq (by omega)] at this;have:=C5 this.symm;omega
  refine⟨i,?_,by omega,hl,?_,λ_ _=>by simpa using k2⟩
  ·unfold Hz;rw[show J5 ((a,b,0,()),(),())=_ from k1];rfl
  ·refine bz λk=> ?_;rw[bk,bk];split
   ·exact eq k (by assumption)
   ·rfl
theorem X6{a b:List rj}(ha:a.length<=maxLen)(h: ∀ (i:Nat) e,a[i]? =some e->b[i]? =some e):JV a b=some (true,()):=by
 obtain⟨n,n1,n2,n3,_,n5⟩:=RJ a b ha
 have hn:n=a.length:=by
  rcases Nat.lt_or_eq_of_le n2 with hlt|e
  ·have hb:=h n _ (aq hlt);exact absurd ((aq hlt).trans hb.symm) (n5 hlt (C5 hb))
  ·exact e
 unfold JV;rw[n1,ao,hn,beq_self_eq_true]
end
section
theorem aaG{x:qg}(h:Rg x)(l:List wN)(hl:l.length<=1048576):Tt (λy=>Rg y.1) (HK x l):=by obtain⟨y,y1,_⟩:=Vl x h.ok l hl;exact⟨y,y1,Vk h l y y1⟩
section
variable [dE]
theorem V0{x:Hd}{l:List Int}(h:kN x=some l)(hl:l.length<=maxLen)(hb: ∀m∈l,0<=m/\m<=255):Tt (λy=>Rg y.1/\y.2.1.length<=1048576) (HZ x):=by
 unfold HZ N6;refine .bind (Q:=λy=>Rg y.1/\y.2.1.length<=1048576) (.dn (ZI h hl hb) λc1 _ h1 _=> .dn (Yi h1) λc2 y h2 hy=> .ip rfl (.bind (Q:=λz=>Rg z.1) ?_ λz hz=> .dn (V2 h2 (by decide) (by decide)) λc4 e h4 he=> .ip rfl (.ret ⟨hz,?_⟩))) λy hy=> .ret hy
 ·have hy5:y.1.length=5:=hy.1;obtain⟨z,z1,_⟩:=ZH y.1 (by omega);exact⟨z,z1,aaE y.1 (by omega) hy.2 z z1⟩
 ·have he:e.1.length<=200:=he;show e.1.length<=1048576;omega
end
end
section
theorem ZV{x:qg}(h:Rg x)(l:List wN)(hl:l.length<=1048576):Tt T1 (KB x l):=by
 have intactT: ∀ {c:qg},Rg c->Tt T1 (FJ c):=λhc=>by obtain⟨v,v1,_⟩:=V8 _ hc.ok hc.valid;exact⟨_,v1,trivial⟩
 unfold KB;rw[(EG x h.ok).1,ao];refine .bind (.count (B:=Kh) (E:=Sum.elim (λ_=>True) λe=> ∃c,Rg c/\e=(((),(),()),(fc c,()),c.servers,c.sides,c.master.configs,c.places,())) l.length (λk (c:qg)=>((l,(),(k:Int),()),(fc c,()),c.servers,c.sides,c.master.configs,c.places,())) (λ_ c=>Rg c) (λc hc=> .end (DH _) (.ret ⟨c,hc,rfl⟩)) (λk c hk hc=> .go (DE.2 hk) (.br (λ_=> .bind (intactT hc) λ_ _=> ?_) λ_=> .ret ⟨c,hc,rfl⟩)) x h) λe he=> ?_
 ·rw[Eb];refine .br (λ_=> .ip (DD k) (.get (tn hk) λe _ _=> ?_)) λ_=> .ret trivial;obtain⟨y,y1,_⟩:=SE c hc.ok e;show Tt _ ((HT c e).bind _);rw[y1,ao];exact .ret ⟨y.1,by rw[BG (Em hl) hk],SD hc e y y1⟩
 ·cases e with
  |inl e=>exact .ret trivial
  |inr e=>obtain⟨c,hc,rfl⟩:=he;exact .bind (intactT hc) λ_ _=> .ret trivial
theorem V3{x:qg}(h:Rg x){G:Int->List rj}{H:List rj}(hh:KM x G H){a:nE}(hla:Ef x.master=some (a,true,())):Tt (λy=>y.2.1=true->Pf H y.1) (I9 x):=by
 obtain⟨c',b',d1,_,d3,d4,d5,_⟩:=F6 x h.ok h.valid;rw[hla] at d1;simp only[af,au,and_true] at d1;obtain⟨rfl,rfl⟩:=d1;obtain⟨av,ae⟩:=d5 rfl;have vc:=El h.ok h.valid;obtain⟨sa,_,_,a1,_⟩:=Fc d3 av;unfold I9;rw[hla,ao,h.valid,ao,df,BI];refine .bind (.count (B:=K4) (E:=λe=>e.1.2.1=true/\e.2.1.1=fx x/\(e.1.2.2.1= -1\/ ∃s,0<=e.1.2.2.1/\e.1.2.2.1<5/\e.1.2.2.1∈a.replicas/\x.servers[e.1.2.2.1.toNat]? =some s/\s.config.epoch=a.epoch)) a.replicas.length (λk (b:Int)=>(((),(),true,b,(k:Int),()),(fx x,(a.epoch,a.primary,(),(),()),()),a.replicas,a.witnesses,())) (λ_ b=>b= -1\/ ∃s,0<=b/\b<5/\b∈a.replicas/\x.servers[b.toNat]? =some s/\s.config.epoch=a.epoch) (λb hb=> .end (DH _) (.ret ⟨rfl,rfl,hb⟩)) (λk b hk hb=> .go (DE.2 hk) (.br (λ_=> .ip ⟨DD k,DE.2 hk⟩ (.get (tn hk) λz _ hz=> ?_)) nofun)) (-1) (.inl rfl)) λe he=> ?_
 ·have hzr:=Ka sa z hz;obtain⟨s,s1,_⟩:=HI h.ok vc hzr;have sw:=BG d3.1 hk;refine .ip hzr.1 ?_;dsimp only;rw[sw,s1,ao];refine .br (λhe=> .br (λ_=> .ret ⟨z,rfl,.inr ⟨s,hzr.1,hzr.2,hz,s1,eq_of_beq he⟩⟩) λhb0=> .ip hzr.1 ?_) λ_=> .ret ⟨b,rfl,hb⟩;have hb0: ¬b<0:=of_decide_eq_false hb0;rcases hb with hb| ⟨t,t0,t5,t6,t7,t8⟩
  ·exact absurd (show b<0 by rw[hb];decide) hb0
  ·rw[ao];refine .ip t0 ?_;rw[t7,ao];exact .br (λ_=> .ret ⟨z,rfl,.inr ⟨s,hzr.1,hzr.2,hz,s1,eq_of_beq he⟩⟩) λ_=> .ret ⟨b,rfl,.inr ⟨t,t0,t5,t6,t7,t8⟩⟩
 ·obtain⟨e1,e2,e3⟩:=he;refine .br (λ_=> .ret λh=>by rw[e1] at h;cases h) λhn=> ?_;have hn: ¬e.1.2.2.1<0:=of_decide_eq_false hn;rcases e3 with e3| ⟨s,t0,t5,t6,t7,t8⟩
  ·exact absurd (show e.1.2.2.1<0 by rw[e3];decide) hn
  refine .ip t0 ?_;rw[e2];show Tt _ ((x.servers[e.1.2.2.1.toNat]?).bind _);rw[t7,ao];obtain⟨sv,oks⟩:=JS h.ok h.valid t7;rw[Oh oks.2.1,ao];refine .ret λ_ i q hi=> ?_;have hc:s.config≠⟨0,0,[],[]⟩:=Nr (by omega);have hsc:s.config=a:=YB h.ok h.valid hla t7 t8;obtain⟨⟨j1,j2,j3⟩,_,j5⟩:=hh.mem _ s t7 hc;have he:s.config.epoch=x.master.activated:=t8.trans ae;obtain⟨n,vs⟩:=OD oks sv.val hc;have hf:=vs.rep λh3=>XC (Ee oks.1) vs.role h3 (by rw[hsc,DP t0];exact t6);rw[he,hf] at j2;have:=j5 he;have:=C5 hi;have hil:i<s.log.length:=by omega
  have h1:=j2 i _ (aq hil);rw[show (0:Int).toNat+i=i from aP i,hh.act i q hi] at h1;show s.log[i]? =some q;rw[aq hil];exact h1.symm
section
variable [dE]
theorem Sr(x:Hd)(l:List Int)(h:kN x=some l)(hl:l.length<=maxLen)(hb: ∀m∈l,0<=m/\m<=255):Kl x=some (true,()):=by
 refine Tt.tru ?_;unfold Kl;refine .bind (Q:=T1) (by unfold WJ;exact .ret trivial) λ_ _=> .br (λ_=> .ret rfl) λ_=> .bind (V0 h hl hb) λa ha=> .bind (ZV ha.1 a.2.1 ha.2) λ_ _=> ?_;rw[Eb];refine .br (λ_=> .bind (aaG ha.1 a.2.1 ha.2) λr hr=> ?_) λ_=> .ret rfl;obtain⟨c,d,d1,_,d3,d4,d5,d6⟩:=F6 r.1 hr.ok hr.valid;have vc:=El hr.ok hr.valid;rw[d1,ao];cases d with
 |false=>
  obtain rfl:=d6 rfl
  have hf:I9 r.1=some ([],true,()):=by unfold I9;rw[d1,ao,hr.valid,ao];show ((M8 (((),(),false,(-1),0,()),(fx r.1,((0:Int),(0:Int),(),(),()),()),([]:List Int),([]:List Int),())).bind _)=_;rw[show M8 (((),(),false,(-1),0,()),(fx r.1,((0:Int),(0:Int),(),(),()),()),([]:List Int),([]:List Int),())=some (((),false,-1,()),(fx r.1,()),()) from lK rfl];rfl
  rw[hf,ao];exact .ret rfl
 |true=>
 obtain⟨G,H,hh⟩:=hr.hist;obtain⟨cv,ce⟩:=d5 rfl;obtain⟨sa,_,cp,c1,_⟩:=Fc d3 cv;have hp:=Ka sa _ cp;obtain⟨⟨fl,fb,_⟩,f1,hfl⟩:=V3 hr hh d1;rw[f1,ao];refine .br nofun λ_=> ?_;rw[Eb];refine .br (λhfb=> ?_) λ_=> .ret rfl;have hfl:Pf H fl:=hfl hfb;obtain⟨s,s1,oks,sval⟩:=HI hr.ok vc hp;have rng:0<=c.primary/\c.primary< (r.1.servers.length:Int):=by rw[vc.len];exact hp
 refine .ip rng ?_;simp only[s1,ao];refine .ip rng ?_;rw[Eb];refine .br (λhse=> ?_) λ_=> .ret rfl;have hse:s.config.epoch=c.epoch:=eq_of_beq hse;have hc:s.config≠⟨0,0,[],[]⟩:=Nr (by omega);obtain⟨⟨_,_,j3⟩,_⟩:=hh.mem _ s s1 hc;have f45:=FO oks sval
 have hcH:s.commit<=(H.length:Int):=by
  rcases Int.lt_or_le 0 s.commit with h0|h0
  ·obtain⟨q,_,q2⟩:=j3 (s.commit.toNat-1) (by omega);have:=C5 q2;omega
  ·omega
 have hHf:=hfl.len;refine .bind (.count (B:=IE) (E:=Sum.elim (λ_=>False) λ_=>True) 5 (λk (_:Unit)=>(((),(),s.commit,(k:Int),()),(fc r.1,()),fl,r.1.servers,r.1.sides,r.1.master.configs,r.1.places,())) (λ_ _=>True) (λ_ _=> .end (DH _) (.ret trivial)) (λk _ hk _=> ?_) () trivial) λe he=> ?_
 ·have sw:=BG (n:=5) (by decide) hk;refine .go (show (k:Int)<5 by omega) ?_;obtain⟨_,_,_,_,w,f,_,_,_,_,_,_,w1,w2,_,_,wl,_⟩:=RG r.1 hr.ok (k:Int);show Tt _ ((Gm r.1 (k:Int)).bind λy22=>(EP r.1 (k:Int)).bind _);rw[w2,ao,w1,ao,Eb,beq_self_eq_true];refine .br (λ_=> .br (λhf=> ?_) λ_=> .ret ⟨(),by rw[sw],trivial⟩) nofun;obtain⟨wH,_,_⟩:=P9 hr.ok hr.valid hh (k:Int) _ w1 hf;have wH:Pf H w:=wH;have hwl:=wH.len;refine .br (λh=>absurd (of_decide_eq_true h) (by show ¬ (w.length:Int)<s.commit;omega)) λ_=> .ip (by show 0<=(0:Int)/\(0:Int)<=s.commit/\s.commit<=((fl.length:Nat):Int);omega) (.ip (by show (0+(0:Int).toNat)+(s.commit.toNat-(0:Int).toNat)<=fl.length;omega) ?_);have e0: (fl.drop (0+(0:Int).toNat)).take (s.commit.toNat-(0:Int).toNat)=fl.take s.commit.toNat:=rfl;show Tt _ ((JV ((fl.drop (0+(0:Int).toNat)).take (s.commit.toNat-(0:Int).toNat)) w).bind _);rw[e0,X6 (by rw[cP];unfold maxLen;omega) λi e hi=> ?_]
  ·exact .ret ⟨(),by rw[sw],trivial⟩
  ·have hlt:=C5 hi;rw[cP] at hlt;rw[D7 (by omega)] at hi;have hiH:i<H.length:=by omega
   have h1:=hfl i _ (aq hiH);rw[hi] at h1;rw[h1];exact wH i _ (aq hiH)
 ·cases e with
  |inl e=>exact he.elim
  |inr e=>exact .ret rfl
end
end
end Go.Proofs.YtkghndikalnipacGreat.En
