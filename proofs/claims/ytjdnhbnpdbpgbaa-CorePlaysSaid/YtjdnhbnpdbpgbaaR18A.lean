/- Lemmas. -/
import Derived.Test.YtjdnhbnpdbpgbaaX34
import Derived.Test.YtjdnhbnpdbpgbaaProg
import Derived.KernelRfl
namespace Go.Proofs.Ytjdnhbnpdbpgbaa
open Go.Lg
set_option linter.unusedVariables false
set_option maxRecDepth 100000
set_option maxHeartbeats 8000000
set_option linter.unusedSimpArgs false
abbrev NI : Sh := .int .i64
abbrev PN : Sh := .pr NI (.pr NI .nil)
abbrev EN : Sh := .pr PN (.pr .bool .nil)
def liveT : List (Nat × List (Nat × List Nat)) := [(3, [(0, [0, 1, 5]), (1, [0, 1, 5, 7]), (2, [0, 1, 5, 7, 8, 9]), (3, [0, 7, 8, 9, 10, 11]), (4, [7, 8, 10, 51]), (5, [6]), (6, [7, 8, 10, 53]), (7, [6]), (8, [8, 10]), (9, [8, 10, 12]), (10, [8, 10, 12, 58]), (11, [8, 10, 12]), (12, [8, 10, 12, 13, 14, 15]), (13, [8, 10, 12, 13, 14, 15, 16, 17, 18, 19]), (14, [8, 10, 12, 16, 86]), (15, [6]), (16, [8, 10, 12]), (17, [6])]),
 (4, [(0, [0, 1, 3, 6]), (1, [0, 1, 3, 6, 9, 10]), (2, [0, 1, 3, 6, 9, 10, 38]), (3, [9, 10, 12]), (4, [8]), (5, [0, 3, 6, 9, 13, 14]), (6, [0, 3, 6, 9, 13, 14, 15]), (7, [0, 3, 6, 9, 13, 14, 15, 57]), (8, [0, 3, 6, 9, 13, 14, 15]), (9, [0, 3, 6, 9, 13, 14, 15, 77]), (10, [0, 3, 6, 9, 13, 15]), (11, [0, 3, 6, 9, 13, 14, 15]), (12, [0, 3, 6, 9, 13, 14, 85]), (13, [18]), (14, [8]), (15, [0, 3, 9, 13, 14, 19]), (16, [3, 9, 14, 19, 20]), (17, [3, 9, 14, 19, 20, 22]), (18, [3, 9, 14, 19, 20, 22, 115]), (19, [3, 9, 14, 19, 20, 22]), (20, [3, 9, 14, 19, 20, 22, 130]), (21, [3, 9, 14, 19, 20, 22, 130, 135]), (22, [3, 9, 14, 19, 20, 22, 130]), (23, [3, 9, 14, 19, 20, 22, 130]), (24, [3, 9, 14, 19, 20, 22, 23, 25]), (25, [3, 9, 14, 19, 20, 22, 23, 162]), (26, [8]), (27, [3, 9, 14, 19, 20, 22, 166]), (28, [8]), (29, [8])]),
 (5, [(0, [0, 1, 2]), (1, [0, 1, 2, 7, 8]), (2, [0, 1, 2, 7, 8, 32]), (3, [7, 8, 10]), (4, [6]), (5, [1, 2, 7, 11]), (6, [1, 2, 7, 11, 12]), (7, [1, 2, 7, 11, 12, 51]), (8, [1, 2, 7, 11, 12]), (9, [1, 2, 7, 11, 12, 66]), (10, [1, 2, 7, 11, 12, 13]), (11, [1, 2, 7, 11, 12, 13, 77]), (12, [6]), (13, [1, 2, 7, 11, 12]), (14, [1, 2, 7, 11, 14]), (15, [1, 7, 11, 14, 15]), (16, [1, 7, 11, 14, 15, 16, 17]), (17, [1, 7, 11, 126]), (18, [6]), (19, [1, 7, 11, 18]), (20, [1, 7, 11, 18, 131]), (21, [1, 7, 11, 18]), (22, [1, 7, 11, 18, 19, 20, 21]), (23, [1, 7, 11, 18, 19, 20, 141]), (24, [1, 7, 11, 18, 20, 164]), (25, [6]), (26, [1, 7, 11, 18]), (27, [6])]),
 (6, [(0, [0]), (1, [0, 3]), (2, [0, 3, 4]), (3, [0, 3, 4, 10]), (4, [0, 3, 4]), (5, [0, 3, 4, 19]), (6, [2]), (7, [2])]),
 (7, [(0, [0]), (1, [0, 3]), (2, [0, 3]), (3, [0, 3, 4]), (4, [0, 3, 4, 13]), (5, [0, 3, 4]), (6, [0, 3, 4]), (7, [2])]),
 (8, [(0, [0, 1, 5]), (1, [0, 1, 5, 8]), (2, [0, 1, 5, 8, 21]), (3, [6, 7]), (4, [0, 1, 5, 9]), (5, [0, 1, 5, 9, 10]), (6, [0, 1, 5, 9, 10, 24, 25]), (7, [0, 1, 5, 9, 10, 24, 25, 26]), (8, [0, 1, 5, 9, 10, 12, 24, 25]), (9, [0, 1, 5, 9, 10, 12, 24, 25]), (10, [0, 1, 5, 9, 10, 24, 25, 34, 35, 36]), (11, [0, 1, 5, 9, 10, 24, 25, 34, 35, 36, 37]), (12, [0, 1, 5, 9, 10, 14, 24, 25, 34, 35, 36]), (13, [0, 1, 5, 9, 10, 14, 24, 25, 34, 35, 36]), (14, [0, 1, 5, 9, 10, 24, 25, 34, 35, 36, 51]), (15, [6, 7]), (16, [0, 1, 5, 9, 10, 24, 25, 34, 35, 36]), (17, [0, 1, 5, 9, 10, 24, 25]), (18, [0, 1, 5, 10, 54]), (19, [6, 7]), (20, [0, 1, 5, 63]), (21, [6, 7]), (22, [5, 15]), (23, [15, 70, 71]), (24, [15, 70, 71, 72]), (25, [15, 16, 17, 70, 71]), (26, [15, 70, 71]), (27, [15, 70, 71]), (28, [6, 7])]),
 (9, [(0, [0, 1, 5, 6]), (1, [0, 1, 5, 6, 8, 9]), (2, [0, 1, 5, 6, 8, 9, 22]), (3, [6, 7]), (4, [0, 1, 5, 6, 8, 10]), (5, [1, 5, 6, 8, 10, 32]), (6, [6, 7]), (7, [5, 6, 8, 10]), (8, [5, 6, 8, 10, 11]), (9, [5, 6, 8, 10, 11, 12]), (10, [5, 6, 8, 10, 11, 12, 37]), (11, [5, 6, 8, 10, 11, 12]), (12, [5, 6, 8, 10, 11, 12, 13]), (13, [5, 6, 8, 10, 11, 12, 13, 14]), (14, [5, 6, 8, 10, 11, 12, 13, 14, 45]), (15, [5, 6, 8, 10, 11, 12, 13, 14]), (16, [5, 6, 8, 10, 11, 12, 13, 14, 15]), (17, [5, 6, 8, 10, 11, 12, 13, 14, 15, 50]), (18, [5, 6, 8, 10, 11, 12, 13, 14, 15]), (19, [5, 6, 8, 10, 11, 12, 13, 14, 15, 67]), (20, [6, 7]), (21, [5, 6, 8, 10, 11, 12, 13, 14, 77]), (22, [6, 7]), (23, [5, 6, 8, 10, 11, 12, 13, 14]), (24, [5, 6, 8, 10, 11, 12, 13]), (25, [5, 6, 8, 10, 11, 12]), (26, [6, 8, 10, 98]), (27, [6, 7]), (28, [6, 7])]),
 (10, [(0, [0, 1]), (1, [0, 1, 5]), (2, [0, 1, 5, 6]), (3, [0, 1, 5, 6, 13]), (4, [0, 1, 5, 6]), (5, [0, 1, 5, 6, 25]), (6, [4]), (7, [4])]),
 (11, [(0, []), (1, [1, 2]), (2, [1, 26]), (3, [0]), (4, [1, 3, 4]), (5, [1, 3, 4, 5, 6]), (6, [1, 3, 4, 5, 6, 7, 8, 9]), (7, [1, 3, 4, 5, 6, 7, 8, 9, 10, 11, 12]), (8, [1, 3, 4, 5, 6, 7, 8, 9, 10, 11, 12, 15]), (9, [0])]),
 (12, [(0, [0, 1, 4]), (1, [0, 1, 4, 8]), (2, [0, 1, 4]), (3, [0, 1, 4])]),
 (13, [(0, [0, 2]), (1, [0, 2, 11]), (2, [2, 3, 4]), (3, [0, 2, 5]), (4, [0, 2, 5, 13]), (5, [0, 2, 5, 13, 14]), (6, [0, 2, 5, 6, 13]), (7, [0, 2, 5, 13]), (8, [0, 2, 5, 13]), (9, [0, 2, 4, 7, 8]), (10, [0, 2, 4, 7, 8, 43]), (11, [2, 3, 4]), (12, [0, 2, 7]), (13, [2, 4, 7]), (14, [2, 3, 4])]),
 (14, [(0, [1, 2, 3]), (1, [1, 2, 3, 6]), (2, [1, 2, 3, 6, 7]), (3, [1, 2, 3, 6, 7, 8]), (4, [1, 2, 3, 6, 7, 8, 14]), (5, [1, 2, 3, 6, 7, 8]), (6, [1, 2, 3, 6, 7, 8]), (7, [1, 2, 3, 6, 9, 10, 11]), (8, [1, 2, 3, 6, 9, 10, 11, 36]), (9, [2, 3, 4, 5]), (10, [1, 2, 3, 9, 10, 12]), (11, [1, 2, 3, 9, 10, 12]), (12, [1, 2, 3, 9, 12]), (13, [2, 3, 4, 5])]),
 (15, [(0, [0, 1]), (1, [0, 1, 11]), (2, [4, 5]), (3, [0, 1, 17]), (4, [4, 5]), (5, [0, 1, 6]), (6, [0, 1, 6, 7]), (7, [0, 1, 6, 7, 21]), (8, [0, 1, 6, 7]), (9, [0, 1, 6, 7, 8]), (10, [0, 1, 6, 7, 8, 35]), (11, [0, 1, 6, 7, 8]), (12, [0, 1, 6, 7, 8, 40]), (13, [0, 1, 6, 7]), (14, [4, 5])]),
 (16, [(0, [0, 3]), (1, [0, 5, 6, 7]), (2, [0, 5, 6, 7, 16]), (3, [4, 5, 6]), (4, [5, 7]), (5, [4, 5, 6])]),
 (17, [(0, [0, 1, 5]), (1, [0, 1, 5, 19]), (2, [6]), (3, [6])]),
 (18, [(0, [0]), (1, [2, 3])]),
 (19, [(0, [0, 2]), (1, [0, 2, 4]), (2, [0, 2, 4, 5]), (3, [0, 2, 4, 5, 9]), (4, [2, 3]), (5, [2, 4]), (6, [2, 3])]),
 (20, [(0, [0, 1, 2]), (1, [0, 1, 2, 15]), (2, [6, 7]), (3, [6, 7])]),
 (21, [(0, [0, 1, 2]), (1, [0, 1, 2, 18]), (2, [6]), (3, [0, 1, 2, 7]), (4, [0, 1, 2, 7, 8]), (5, [0, 1, 7, 8, 20, 21, 22]), (6, [0, 1, 7, 8, 20, 21, 22, 23]), (7, [0, 1, 7, 8, 10, 20, 21, 22]), (8, [0, 1, 7, 8, 10, 20, 21, 22]), (9, [0, 1, 7, 8, 10, 20, 21, 22, 43]), (10, [6]), (11, [0, 1, 7, 8, 20, 21, 22]), (12, [0, 1, 7, 8, 20, 21, 22]), (13, [6])]),
 (22, [(0, [0]), (1, [0, 4]), (2, [0, 4, 5]), (3, [0, 3, 4]), (4, [0, 4, 19]), (5, [2]), (6, [0, 4]), (7, [2])]),
 (23, [(0, [0, 3]), (1, [0, 3, 5, 6]), (2, [0, 3, 5, 6, 25]), (3, [0, 3, 5, 6, 25, 26]), (4, [0, 3, 5, 7, 8]), (5, [0, 5, 7, 8, 9, 10]), (6, [0, 5, 7, 8, 9, 10]), (7, [0, 5, 7, 8, 10]), (8, [7, 8, 10]), (9, [4]), (10, [0, 3, 5, 6, 25, 69]), (11, [0, 3, 5, 6, 25, 69]), (12, [0, 3, 5, 6, 25, 69]), (13, [0, 3, 5, 6, 25, 69]), (14, [0, 3, 5, 6, 25, 69]), (15, [0, 3, 5, 6, 25, 69]), (16, [4]), (17, [0, 5, 6, 25, 80]), (18, [4]), (19, [0, 5, 6, 25, 85]), (20, [0, 5, 6, 11]), (21, [0, 5, 6, 11]), (22, [0, 5, 6, 11]), (23, [0, 5, 11]), (24, [4]), (25, [0, 5, 6, 131]), (26, [0, 5, 6, 138]), (27, [0, 5, 6, 12, 13]), (28, [0, 5, 6, 12, 13]), (29, [0, 6, 12, 13]), (30, [12, 13]), (31, [4]), (32, [4])]),
 (24, [(0, [0, 1]), (1, [0, 1, 5]), (2, [0, 1, 5, 23]), (3, [4]), (4, [0, 1, 5, 6]), (5, [0, 1, 5, 6, 43]), (6, [0, 1, 5, 6]), (7, [0, 1, 5, 6, 7]), (8, [0, 1, 5, 6, 7, 8]), (9, [0, 1, 5, 6, 7, 8, 54]), (10, [0, 1, 5, 6, 7, 8]), (11, [0, 1, 5, 6, 7, 67]), (12, [4]), (13, [0, 1, 5, 6, 7, 9]), (14, [0, 1, 5, 6, 7, 9, 71]), (15, [0, 1, 5, 6, 7, 9]), (16, [0, 1, 5, 6, 7, 9]), (17, [0, 1, 5, 6, 7, 10]), (18, [0, 1, 5, 6, 7, 10, 80]), (19, [0, 1, 5, 6, 7, 10]), (20, [0, 1, 5, 6, 7, 10]), (21, [4])]),
 (25, [(0, [0]), (1, [0, 9]), (2, [2]), (3, [0, 3]), (4, [3, 10, 11, 12]), (5, [3, 10, 11, 12, 13]), (6, [3, 5, 10, 11, 12]), (7, [3, 5, 10, 11, 12, 18]), (8, [2]), (9, [3, 10, 11, 12]), (10, [3, 10, 11, 12]), (11, [3, 22]), (12, [3, 22, 23]), (13, [3, 6, 22]), (14, [3, 22, 28]), (15, [2]), (16, [3, 22]), (17, [2])]),
 (26, [(0, [0]), (1, [0, 4]), (2, [2]), (3, [2])]),
 (27, [(0, [0, 2]), (1, [0, 2, 3]), (2, [2, 3]), (3, [2])]),
 (28, [(0, [2, 3]), (1, [7]), (2, [4])]),
 (29, [(0, [0, 1]), (1, [0, 1, 10]), (2, [4]), (3, [0, 1, 5]), (4, [0, 1, 5, 14]), (5, [0, 1, 5]), (6, [0, 1, 5, 25]), (7, [4]), (8, [4])]),
 (30, [(0, [0]), (1, [0, 5]), (2, [2]), (3, [2])]),
 (31, [(0, [0]), (1, [2])]),
 (32, [(0, [0]), (1, [0, 5]), (2, [2]), (3, [2])]),
 (33, [(0, [0, 1, 5]), (1, [0, 1, 5, 11]), (2, [6, 7, 8]), (3, [0, 1, 5, 15]), (4, [6, 7, 8]), (5, [0, 1, 5, 24]), (6, [0, 1, 5, 24, 25]), (7, [0, 1, 5, 9, 24]), (8, [0, 1, 5, 10, 24]), (9, [0, 1, 5, 10, 24, 36]), (10, [6, 7, 8]), (11, [0, 1, 5, 24]), (12, [6, 7, 8])]),
 (34, [(0, [0, 2]), (1, [2, 3])]),
 (35, [(0, [0, 1, 5]), (1, [0, 1, 5, 13]), (2, [6, 7, 8]), (3, [0, 1, 5, 21]), (4, [6, 7, 8]), (5, [0, 1, 5, 9]), (6, [0, 1, 5, 9, 23]), (7, [0, 1, 5, 9]), (8, [0, 1, 5, 9, 10]), (9, [0, 1, 5, 9, 10, 35]), (10, [6, 7, 8]), (11, [6, 7, 8])]),
 (36, [(0, [0, 1]), (1, [0, 1, 5]), (2, [0, 1, 5]), (3, [4])]),
 (37, [(0, [0]), (1, [0, 8]), (2, [2]), (3, [0, 3]), (4, [0, 3, 4]), (5, [0, 3, 4, 12]), (6, [0, 3, 4]), (7, [0, 3, 4, 26]), (8, [2]), (9, [0, 3, 4]), (10, [3, 5]), (11, [3, 5, 33]), (12, [3, 5]), (13, [3, 5, 39]), (14, [2]), (15, [2])]),
 (38, [(0, [0, 3]), (1, [0, 3, 11]), (2, [4, 5, 6]), (3, [0, 3, 12]), (4, [0, 3, 12, 13]), (5, [0, 3, 7, 12]), (6, [0, 3, 7, 8, 12]), (7, [0, 3, 7, 8, 12, 26]), (8, [4, 5, 6]), (9, [0, 3, 12]), (10, [4, 5, 6])]),
 (39, [(0, [0, 1, 4]), (1, [0, 1, 4, 5]), (2, [0, 1, 4, 5, 13]), (3, [4, 5]), (4, [4]), (5, [4, 5])]),
 (40, [(0, [0]), (1, [2])]),
 (41, [(0, [0, 3]), (1, [7]), (2, [4])]),
 (42, [(0, [0, 3]), (1, [4])]),
 (43, [(0, [0, 1]), (1, [0, 1, 14]), (2, [4, 5]), (3, [0, 6]), (4, [0, 6, 23]), (5, [4, 5]), (6, [0, 6, 7]), (7, [7]), (8, [4, 5])]),
 (44, [(0, [0, 1]), (1, [0, 1, 7]), (2, [4]), (3, [0, 1, 12]), (4, [4]), (5, []), (6, [4])]),
 (45, [(0, [0, 1, 5]), (1, [0, 1, 5, 7, 8]), (2, [0, 1, 5, 7, 8, 9, 10]), (3, [0, 1, 5, 7, 8, 9, 10, 11]), (4, [0, 1, 5, 7, 8, 9, 10, 11, 52]), (5, [0, 1, 5, 7, 8, 9, 10, 11, 52, 53]), (6, [0, 1, 5, 8, 9, 11]), (7, [0, 1, 8, 9, 10, 11]), (8, [0, 1, 5, 7, 8, 9, 10, 11, 52, 70]), (9, [0, 1, 8, 12, 13, 14]), (10, [0, 1, 8, 12, 13, 14, 15, 16, 17, 18]), (11, [0, 1, 8, 9, 10, 12, 13, 16, 17]), (12, [0, 1, 8, 9, 10, 11]), (13, [0, 1, 5, 7, 8, 9, 10, 11, 52, 105]), (14, [0, 1, 5, 8, 19, 20, 21]), (15, [0, 1, 8, 19, 20, 21, 22, 23, 24, 25]), (16, [0, 1, 8, 9, 10, 19, 20, 23, 24]), (17, [0, 1, 8, 9, 10, 11]), (18, [0, 1, 5, 7, 8, 9, 10, 11, 52, 144]), (19, [0, 1, 5, 8, 26, 27]), (20, [0, 1, 8, 26, 27, 28, 29, 30]), (21, [0, 1, 8, 9, 10, 26, 29]), (22, [0, 1, 8, 9, 10, 11, 26]), (23, [0, 1, 8, 9, 10, 11, 26, 31]), (24, [0, 1, 8, 9, 10, 11, 26, 31, 183]), (25, [0, 1, 8, 9, 10, 11, 26, 31]), (26, [0, 1, 8, 9, 10, 11, 26, 31]), (27, [0, 1, 5, 7, 8, 9, 10, 11, 52, 191]), (28, [0, 1, 5, 7, 8, 32]), (29, [0, 1, 5, 8, 9, 32]), (30, [0, 1, 5, 8, 9, 10, 32]), (31, [0, 1, 8, 9, 10, 11]), (32, [0, 1, 5, 7, 8, 9, 10, 11, 215]), (33, [0, 1, 5, 8, 33, 34, 35]), (34, [0, 1, 8, 33, 34, 35, 36, 37, 38]), (35, [0, 1, 8, 9, 10, 33, 34, 36, 37]), (36, [0, 1, 8, 9, 10, 11]), (37, [0, 1, 8, 9, 10, 11, 258]), (38, [6]), (39, [9, 10, 11]), (40, [6])]),
 (46, [(0, [0]), (1, [0, 7]), (2, [2]), (3, [0, 3]), (4, [0, 3, 19]), (5, [0, 3, 19, 20]), (6, [0, 3, 4, 19]), (7, [0, 3, 19]), (8, [0, 3, 19]), (9, [2])]),
 (47, [(0, [0, 1]), (1, [0, 1, 12]), (2, [4]), (3, [4])]),
 (48, [(0, [0, 1]), (1, [0, 1, 10]), (2, [4]), (3, [0, 1, 5]), (4, [0, 1, 5, 14]), (5, [0, 1, 5]), (6, [0, 1, 5, 25]), (7, [4]), (8, [4])]),
 (49, [(0, [1]), (1, [2])]),
 (50, [(0, [0]), (1, [2])]),
 (51, [(0, [0]), (1, [0, 9]), (2, [2, 3]), (3, [2, 3])]),
 (52, [(0, [2, 3]), (1, [2, 3, 7]), (2, [2, 3, 7, 10]), (3, [2, 3, 7]), (4, [2, 3, 7, 8]), (5, [2, 3, 7, 8, 19]), (6, [2, 3, 7, 8]), (7, [2, 3, 7, 8, 31]), (8, [4, 5, 6]), (9, [4, 5, 6])]),
 (53, [(0, [0]), (1, [2])]),
 (54, [(0, [0, 1]), (1, [0, 1, 7, 8]), (2, [0, 1, 7, 8, 9]), (3, [0, 1, 5, 7, 8]), (4, [0, 1, 5, 7, 8, 16]), (5, [4]), (6, [0, 1, 7, 8]), (7, [4])]),
 (55, [(0, [0]), (1, [0, 5]), (2, [2]), (3, [2])]),
 (56, [(0, [1, 2]), (1, [3])]),
 (57, [(0, [0, 1, 4]), (1, [0, 1, 4, 8]), (2, [4, 5]), (3, [0, 1, 4, 20]), (4, [4, 5]), (5, [4, 5])]),
 (58, [(0, [0, 1]), (1, [0, 1, 6]), (2, [4]), (3, [4])]),
 (59, [(0, [0]), (1, [0, 3]), (2, [0, 3]), (3, [2])]),
 (60, [(0, [0]), (1, [0, 5]), (2, [2]), (3, [2])]),
 (61, [(0, [1, 3, 5, 6]), (1, [1, 3, 5, 6, 16]), (2, [6, 7]), (3, [1, 3, 5, 6, 23]), (4, [6, 7]), (5, [1, 3, 5, 6, 8]), (6, [1, 3, 5, 6, 8]), (7, [3, 6]), (8, [6, 7])]),
 (62, [(0, [2, 3, 4]), (1, [2, 4, 8, 9, 10]), (2, [2, 4, 8, 9, 10, 19]), (3, [4, 5, 6, 7]), (4, [2, 4, 8, 9]), (5, [4, 5, 6, 7])]),
 (63, [(0, [1, 2, 3, 6]), (1, [1, 2, 3, 6, 9]), (2, [1, 2, 3, 6, 9, 18]), (3, [6, 7, 8]), (4, [1, 2, 3, 6, 9, 10]), (5, [1, 2, 3, 6, 9, 10, 28]), (6, [6, 7, 8]), (7, [1, 2, 3, 6, 9, 10]), (8, [1, 2, 3, 6, 9, 10, 11]), (9, [3, 6, 9]), (10, [6, 7, 8])]),
 (64, [(0, [1, 2, 3, 6]), (1, [1, 2, 3, 6, 14]), (2, [6, 7]), (3, [1, 2, 3, 6, 8]), (4, [1, 2, 3, 6, 8, 19]), (5, [1, 2, 3, 6, 8]), (6, [1, 2, 3, 6, 8, 28]), (7, [6, 7]), (8, [1, 2, 3, 6, 8, 9]), (9, [1, 2, 3, 6, 8, 9, 32]), (10, [1, 2, 3, 6, 8, 9]), (11, [1, 2, 3, 6, 8, 9, 45]), (12, [6, 7]), (13, [1, 2, 3, 6, 55]), (14, [6, 7]), (15, [1, 2, 3, 6, 10]), (16, [1, 2, 3, 6, 10]), (17, [1, 2, 3, 6, 10, 11]), (18, [1, 2, 3, 6, 10, 11, 66]), (19, [1, 2, 3, 6, 10, 11]), (20, [1, 2, 3, 6, 10, 11]), (21, [3, 6]), (22, [6, 7])]),
 (65, [(0, [0]), (1, [0, 5]), (2, [2]), (3, [2])]),
 (66, [(0, [0]), (1, [2])])]
def loopT : List (Nat × List (Nat × (List Nat × Bool))) := [(3, [(10, ([8, 10, 12], false))]),
 (4, [(7, ([0, 3, 6, 9, 13, 14, 15], false)), (18, ([3, 9, 14, 19, 20, 22], false))]),
 (5, [(7, ([1, 2, 7, 11, 12], false)), (20, ([1, 7, 11, 18], false))]),
 (6, [(3, ([0, 3, 4], false))]),
 (7, [(4, ([0, 3, 4], false))]),
 (8, [(7, ([0, 1, 5, 9, 10, 24, 25], false)), (11, ([0, 1, 5, 9, 10, 24, 25, 34, 35, 36], false)), (24, ([15, 70, 71], false))]),
 (9, [(10, ([5, 6, 8, 10, 11, 12], false)), (14, ([5, 6, 8, 10, 11, 12, 13, 14], false)), (17, ([5, 6, 8, 10, 11, 12, 13, 14, 15], false))]),
 (10, [(3, ([0, 1, 5, 6], false))]),
 (12, [(1, ([0, 1, 4], false))]),
 (13, [(5, ([0, 2, 5, 13], false))]),
 (14, [(4, ([1, 2, 3, 6, 7, 8], false))]),
 (15, [(7, ([0, 1, 6, 7], false)), (10, ([0, 1, 6, 7, 8], false))]),
 (21, [(6, ([0, 1, 7, 8, 20, 21, 22], false))]),
 (22, [(2, ([0, 4], false))]),
 (24, [(5, ([0, 1, 5, 6], false)), (14, ([0, 1, 5, 6, 7, 9], false)), (18, ([0, 1, 5, 6, 7, 10], false))]),
 (25, [(5, ([3, 10, 11, 12], false)), (12, ([3, 22], false))]),
 (29, [(4, ([0, 1, 5], false))]),
 (33, [(6, ([0, 1, 5, 24], false))]),
 (35, [(6, ([0, 1, 5, 9], false))]),
 (37, [(5, ([0, 3, 4], false)), (11, ([3, 5], false))]),
 (38, [(4, ([0, 3, 12], false))]),
 (45, [(24, ([0, 1, 8, 9, 10, 11, 26, 31], false))]),
 (46, [(5, ([0, 3, 19], false))]),
 (48, [(4, ([0, 1, 5], false))]),
 (52, [(2, ([2, 3, 7], false)), (5, ([2, 3, 7, 8], false))]),
 (54, [(2, ([0, 1, 7, 8], false))]),
 (64, [(4, ([1, 2, 3, 6, 8], false)), (9, ([1, 2, 3, 6, 8, 9], false)), (18, ([1, 2, 3, 6, 10, 11], false))])]
def maskT : List (Nat × List (Nat × List (Nat × (Bool × List Nat)))) := [(11, [(5, [(2, (false, [4])), (4, (true, [4]))])]),
 (14, [(9, [(1, (true, [6])), (3, (false, [6]))]), (13, [(1, (true, [12])), (3, (false, [12]))])]),
 (24, [(21, [(1, (false, [0])), (6, (true, [0])), (7, (true, [0])), (12, (false, [0])), (17, (true, [0])), (19, (true, [0]))])]),
 (45, [(1, [(4, (true, [0])), (5, (true, [0])), (10, (true, [0])), (11, (true, [0])), (12, (false, [0]))])]),
 (46, [(3, [(4, (false, [0])), (8, (true, [0]))])]),
 (65, [(3, [(3, (true, [0])), (8, (false, [0]))])])]
def tab {α : Type} (T : List (Nat × List (Nat × α))) (f r : Nat) : Option α := (T.lookup f).bind (List.lookup r)
abbrev an : Ann := { pureSl := fun _ => true, dryB := fun t => t == 22 || t == 23 || t == 57, pureFn := fun f => [9, 11, 14, 15, 19, 25, 28, 29, 33, 35, 36, 37, 48, 49, 50, 52, 61, 62, 63, 64, 66].contains f, live := tab liveT, loop := tab loopT, mask := fun f r i => (tab maskT f r).bind (List.lookup i), may := fun f => [3, 4, 5, 6, 7, 8, 9, 10, 11, 12, 13, 14, 15, 16, 17, 18, 19, 20, 21, 22, 23, 24, 25, 26, 27, 28, 29, 30, 31, 32, 33, 34, 35, 36, 37, 38, 39, 40, 41, 42, 43, 44, 45, 46, 47, 48, 49, 50, 51, 52, 53, 54, 55, 56, 57, 58, 59, 60, 61, 62, 63, 64, 65, 66].contains f }
noncomputable abbrev pg : Program := Try.prog
abbrev W0 : List C := [nilC, vi 0, nilC, nilC, nilC]
abbrev wC (rn rc u0 v0 u1 v1 u2 v2 : Bool) (S : List Int) (hand : Int) (l0 l1 l2 : List EN.T) : List C := [sv NI false rn rc S, vi hand, sv EN false u0 v0 l0, sv EN false u1 v1 l1, sv EN false u2 v2 l2]
abbrev gW (rb rn rc w0 u0 v0 w1 u1 v1 w2 u2 v2 : Bool) (S : List Int) (hand : Int) (l0 l1 l2 : List EN.T) : List C := [sv NI rb rn rc S, vi hand, sv EN w0 u0 v0 l0, sv EN w1 u1 v1 l1, sv EN w2 u2 v2 l2]
abbrev cO (ks : Nat) (S : List Int) (hand : Int) (q0 q1 q2 : Nat) : List C := [rowC ks 0 S.length 0 S.length false, vi hand, .ptr q0 0, .ptr q1 0, .ptr q2 0]
abbrev gP (q : Nat) (l : List EN.T) : HP := ringP EN q 64 l
abbrev kP (k : Nat) (S : List Int) : HP := pts k (rowO NI true 0 S)
theorem ob_nil {P : Program} {A : Ann} {mk : Nat → Msk} {ops : Array Oper} : ∀ {is : List Nat} {e : Env} {H : Go.Lg.Heap} {r : Env × Go.Lg.Heap}, runO P A mk ops [] is e H = some r → obO P A mk ops [] is e H := by
 intro is
 induction is with
 | nil => intro e H r _; trivial
 | cons i is ih =>
  intro e H r h
  cases hop : ops[i]? with
  | none => simp only [runO, obO, hop] at h ⊢; exact ih h
  | some o =>
   simp only [runO, obO, hop] at h ⊢
   cases hw : wantX ops (get e) o with
   | none => simp only [hw] at h; cases h
   | some b =>
    simp only [hw, kS] at h ⊢
    cases b with
    | false => simp only [Bool.false_eq_true, if_false] at h; exact ih h
    | true =>
     simp only [if_true, ansOf, Option.none_or] at h ⊢
     cases hx : opD P A (runX P A 0) (mk i) e H o with
     | none => rw [hx] at h; cases h
     | some v => rw [hx] at h; exact ih h
theorem rS0 {P : Program} {A : Ann} {f : FuncId} {e : Env} {H : Go.Lg.Heap} {Q : Ex → Env → Go.Lg.Heap → Prop} {id : Nat} {ops : Array Oper} {d : Bool} {b : Code} (e1 : Env) (hr : (runO P A (mkM (A.mask f id) (A.late f id) H.length) ops [] (List.range ops.size) e (holesX (A.late f id) H)).map (fun x => (liveX A f id x.1, x.2)) = some (e1, H)) (h : Wp P A f b e1 H Q) : Wp P A f (.seq (.region id ops d) b) e H Q := rSq [] e1 H (ob_nil (kM.1 hr).choose_spec.1) hr h
abbrev HH := Go.Lg.Heap
abbrev sto (H : HH) (n : Nat) (o : O) : HH := List.set H n o
abbrev yp (k : Nat) : X := .y (.one (.ptr k 0))
abbrev rft {α : Type} (k : Nat) (l : List α) : C := rowC k 0 l.length 0 l.length true
abbrev rff {α : Type} (k : Nat) (l : List α) : C := rowC k 0 l.length 0 l.length false
def Oz (ans : List (Nat × X × Go.Lg.Heap)) (T : Prop) : Prop := T
theorem zN : Oz [] True := trivial
theorem zA (i : Nat) {vals : List X} {H : Go.Lg.Heap} {op : Op} {ty : TypeId} {v : X} {H' : Go.Lg.Heap} {ans : List (Nat × X × Go.Lg.Heap)} {T : Prop} (h : Ob pg an vals H op ty v H') (r : Oz ans T) : Oz ((i, v, H') :: ans) (Ob pg an vals H op ty v H' ∧ T) := ⟨h, r⟩
theorem zL (i : Nat) {vals : List X} {H : Go.Lg.Heap} {op : Op} {ty : TypeId} {v : X} {H' : Go.Lg.Heap} (h : Ob pg an vals H op ty v H') : Oz [(i, v, H')] (Ob pg an vals H op ty v H' ∧ True) := ⟨h, trivial⟩
section
variable {f : FuncId} {e : Env} {H : Go.Lg.Heap} {Q : Ex → Env → Go.Lg.Heap → Prop} {id : Nat} {ops : Array Oper} {d : Bool} {b : Code} {ans : List (Nat × X × Go.Lg.Heap)} {T : Prop}
theorem rSz (e1 : Env) (H1 : Go.Lg.Heap) (q : Oz ans T) (h : Wp pg an f b e1 H1 Q) (hc : T = obO pg an (mkM (an.mask f id) (an.late f id) H.length) ops ans (List.range ops.size) e (holesX (an.late f id) H) := by kernel_rfl) (hr : (runO pg an (mkM (an.mask f id) (an.late f id) H.length) ops ans (List.range ops.size) e (holesX (an.late f id) H)).map (fun x => (liveX an f id x.1, x.2)) = some (e1, H1) := by kernel_rfl) : Wp pg an f (.seq (.region id ops d) b) e H Q := rSq ans e1 H1 (cast hc q) hr h
theorem rKz (e1 : Env) (H1 : Go.Lg.Heap) (q : Oz ans T) (h : Wp pg an f .skip e1 H1 Q) (hc : T = obO pg an (mkM (an.mask f id) (an.late f id) H.length) ops ans (List.range ops.size) e (holesX (an.late f id) H) := by kernel_rfl) (hr : (runO pg an (mkM (an.mask f id) (an.late f id) H.length) ops ans (List.range ops.size) e (holesX (an.late f id) H)).map (fun x => (liveX an f id x.1, x.2)) = some (e1, H1) := by kernel_rfl) : Wp pg an f (.region id ops d) e H Q := rKq ans e1 H1 (cast hc q) hr h
theorem rRz (e1 : Env) (H1 : Go.Lg.Heap) (q : Oz ans T) (h : Q .normal e1 H1) (hc : T = obO pg an (mkM (an.mask f id) (an.late f id) H.length) ops ans (List.range ops.size) e (holesX (an.late f id) H) := by kernel_rfl) (hr : (runO pg an (mkM (an.mask f id) (an.late f id) H.length) ops ans (List.range ops.size) e (holesX (an.late f id) H)).map (fun x => (liveX an f id x.1, x.2)) = some (e1, H1) := by kernel_rfl) : Wp pg an f (.region id ops d) e H Q := wR ans e1 H1 (cast hc q) hr h
theorem rs0 (e1 : Env) (h : Wp pg an f b e1 H Q) (hr : (runO pg an (mkM (an.mask f id) (an.late f id) H.length) ops [] (List.range ops.size) e (holesX (an.late f id) H)).map (fun x => (liveX an f id x.1, x.2)) = some (e1, H) := by kernel_rfl) : Wp pg an f (.seq (.region id ops d) b) e H Q := rS0 e1 hr h
theorem rOf {fn : Func} {c : Code} {args : List Y} {R : List Y → Go.Lg.Heap → Prop} (hf : pg.funcs[f]? = some fn) (hb : fn.body = some c) (e0 : Env) (h : Wp pg an f c e0 H fun x e H => (x = .normal ∨ x = .ret) ∧ ∃ rs, fn.results.toList.mapM (resX pg e H) = some rs ∧ R rs H) (hm : (an.may f && (decide (args.length ≤ fn.ntmps) && !an.gc f)) = true := by kernel_rfl) (he : (args.zipIdx.map fun p => (p.2, X.y p.1)) = e0 := by kernel_rfl) : ∃ rs H', Runs pg an f args H rs H' ∧ R rs H' := Runs.of hf hb hm e0 he h
end
section
variable {H : Go.Lg.Heap}
theorem qL {id : Nat} {cs : List C} (t : TypeId) (off : Nat) (v : Y) (hH : H[id]? = some (.obj cs)) (hk : ldC pg t off cs = some v := by kernel_rfl) : Ob pg an [.y (.one (.ptr id off))] H (.load t (.tmp 0)) 0 (.y v) H := oL hH hk
theorem qA {id : Nat} {cs : List C} (t : TypeId) (hH : H[id]? = some (.obj cs)) (hk : ldC pg t 0 cs = some (.agg cs) := by kernel_rfl) : Ob pg an [.y (.one (.ptr id 0))] H (.load t (.tmp 0)) 0 (.y (.agg cs)) H := oL hH hk
theorem qS {id : Nat} {cs : List C} (t : TypeId) (off : Nat) (v : Y) (hH : H[id]? = some (.obj cs)) (hk : stC pg t off cs v = true := by kernel_rfl) : Ob pg an [.y (.one (.ptr id off)), .y v] H (.store t (.tmp 0) (.tmp 1)) 0 .undef (H.set id (.obj (splice off v.cells cs))) := oS hH hk
theorem qC1 {g : FuncId} {x : Y} {res : List Y} {H' : Go.Lg.Heap} (hr : Runs pg an g [x] H res H') (hp : an.pureFn g = false := by kernel_rfl) : Ob pg an [.y x] H (.call { callee := .value (.func g), args := #[.tmp 0], argTypes := #[] }) 0 (pack res) H' := oC1 hr hp
theorem qC2 {g : FuncId} {x y : Y} {res : List Y} {H' : Go.Lg.Heap} (hr : Runs pg an g [x, y] H res H') (hp : an.pureFn g = false := by kernel_rfl) : Ob pg an [.y x, .y y] H (.call { callee := .value (.func g), args := #[.tmp 0, .tmp 1], argTypes := #[] }) 0 (pack res) H' := oC2 hr hp
theorem qC3 {g : FuncId} {x y z : Y} {res : List Y} {H' : Go.Lg.Heap} (hr : Runs pg an g [x, y, z] H res H') (hp : an.pureFn g = false := by kernel_rfl) : Ob pg an [.y x, .y y, .y z] H (.call { callee := .value (.func g), args := #[.tmp 0, .tmp 1, .tmp 2], argTypes := #[] }) 0 (pack res) H' := oC3 hr hp
theorem qP1 (H : Go.Lg.Heap) {g : FuncId} {x : Y} {res : List Y} (hc : PureC pg an g [x] res) (hs : [x].mapM (snapY H) = some [x] := by kernel_rfl) (hp : an.pureFn g = true := by kernel_rfl) : Ob pg an [.y x] H (.call { callee := .value (.func g), args := #[.tmp 0], argTypes := #[] }) 0 (pack res) H := oP1 hc hs hp
theorem qP2 (H : Go.Lg.Heap) {g : FuncId} {x y : Y} {res : List Y} (hc : PureC pg an g [x, y] res) (hs : [x, y].mapM (snapY H) = some [x, y] := by kernel_rfl) (hp : an.pureFn g = true := by kernel_rfl) : Ob pg an [.y x, .y y] H (.call { callee := .value (.func g), args := #[.tmp 0, .tmp 1], argTypes := #[] }) 0 (pack res) H := oP2 hc hs hp
theorem qP3 (H : Go.Lg.Heap) {g : FuncId} {x y z : Y} {res : List Y} (hc : PureC pg an g [x, y, z] res) (hs : [x, y, z].mapM (snapY H) = some [x, y, z] := by kernel_rfl) (hp : an.pureFn g = true := by kernel_rfl) : Ob pg an [.y x, .y y, .y z] H (.call { callee := .value (.func g), args := #[.tmp 0, .tmp 1, .tmp 2], argTypes := #[] }) 0 (pack res) H := oP3 hc hs hp
theorem qB {n : Nat} (t : TypeId) (cs : List C) (hl : n = H.length) (hn : (Y.agg cs).cells.all C.live = true := by kernel_rfl) (ht : szT pg t = some (Y.agg cs).cells.length := by kernel_rfl) : Ob pg an [.y (.agg cs)] H (.box t (.tmp 0)) 0 (.y (.one (.ptr n 0))) (H ++ [.obj cs]) := ob_box hl hn ht rfl
theorem qO {n : Nat} (t : TypeId) (cs : List C) (hl : n = H.length) (hz : zeroC pg t = some cs := by kernel_rfl) : Ob pg an [] H (.alloc t) 0 (.y (.one (.ptr n 0))) (H ++ [.obj cs]) := ob_alloc hl hz
theorem lX (H : Go.Lg.Heap) : ∃ n, n = List.length H := ⟨_, rfl⟩
theorem rGz {f : FuncId} {e : Env} {Q : Ex → Env → Go.Lg.Heap → Prop} {id : Nat} {ops : Array Oper} {d : Bool} {b : Code} {ans : List (Nat × X × Go.Lg.Heap)} {T : Prop} (e1 : Env) {cs : List HP} {H1 : Go.Lg.Heap} (hs : On cs H1) (q : Oz ans T) (h : ∀ H2, On cs H2 → Wp pg an f b e1 H2 Q) (hc : T = obO pg an (mkM (an.mask f id) (an.late f id) H.length) ops ans (List.range ops.size) e (holesX (an.late f id) H) := by kernel_rfl) (hr : (runO pg an (mkM (an.mask f id) (an.late f id) H.length) ops ans (List.range ops.size) e (holesX (an.late f id) H)).map (fun x => (liveX an f id x.1, x.2)) = some (e1, H1) := by kernel_rfl) : Wp pg an f (.seq (.region id ops d) b) e H Q := rSz e1 H1 q (wG hs h) hc hr
theorem rHz {f : FuncId} {e : Env} {Q : Ex → Env → Go.Lg.Heap → Prop} {id : Nat} {ops : Array Oper} {d : Bool} {ans : List (Nat × X × Go.Lg.Heap)} {T : Prop} (e1 : Env) {cs : List HP} {H1 : Go.Lg.Heap} (hs : On cs H1) (q : Oz ans T) (h : ∀ H2, On cs H2 → Wp pg an f .skip e1 H2 Q) (hc : T = obO pg an (mkM (an.mask f id) (an.late f id) H.length) ops ans (List.range ops.size) e (holesX (an.late f id) H) := by kernel_rfl) (hr : (runO pg an (mkM (an.mask f id) (an.late f id) H.length) ops ans (List.range ops.size) e (holesX (an.late f id) H)).map (fun x => (liveX an f id x.1, x.2)) = some (e1, H1) := by kernel_rfl) : Wp pg an f (.region id ops d) e H Q := rKz e1 H1 q (wG hs h) hc hr
theorem rOF {f : FuncId} {fn : Func} {c : Code} {args : List Y} {R : List Y → Go.Lg.Heap → Prop} (hf : pg.funcs[f]? = some fn) (hb : fn.body = some c) (h : Wp pg an f c (args.zipIdx.map fun p => (p.2, X.y p.1)) H fun x e H => (x = .normal ∨ x = .ret) ∧ ∃ rs, fn.results.toList.mapM (resX pg e H) = some rs ∧ R rs H) (hm : (an.may f && (decide (args.length ≤ fn.ntmps) && !an.gc f)) = true := by kernel_rfl) : ∃ rs H', Runs pg an f args H rs H' ∧ R rs H' := Runs.of hf hb hm _ rfl h
theorem pE1 {g : FuncId} {xs : List Y} {α : Type} {res : α → List Y} (h : ∃ rs H', Runs pg an g xs [] rs H' ∧ ∃ a, rs.mapM (backY H') = some (res a)) : ∃ a, PureC pg an g xs (res a) := by obtain ⟨rs, H', h1, a, h2⟩ := h; exact ⟨a, rs, H', h1, h2⟩
theorem pE2 {g : FuncId} {xs : List Y} {α β : Type} {res : α → β → List Y} (h : ∃ rs H', Runs pg an g xs [] rs H' ∧ ∃ a b, rs.mapM (backY H') = some (res a b)) : ∃ a b, PureC pg an g xs (res a b) := by obtain ⟨rs, H', h1, a, b, h2⟩ := h; exact ⟨a, b, rs, H', h1, h2⟩
theorem pE4 {g : FuncId} {xs : List Y} {α β γ δ : Type} {res : α → β → γ → δ → List Y} (h : ∃ rs H', Runs pg an g xs [] rs H' ∧ ∃ a b c d, rs.mapM (backY H') = some (res a b c d)) : ∃ a b c d, PureC pg an g xs (res a b c d) := by obtain ⟨rs, H', h1, a, b, c, d, h2⟩ := h; exact ⟨a, b, c, d, rs, H', h1, h2⟩
end
section
variable {t u ty : TypeId}
theorem qlssT (H : Go.Lg.Heap) (a b : Int) (h : a < b := by omega) : Ob pg an [xi a, xi b] H (.binOp .lss 3 (.tmp 0) (.tmp 1) 3) 0 (xb true) H := lssT h
theorem qlssF (H : Go.Lg.Heap) (a b : Int) (h : ¬ a < b := by omega) : Ob pg an [xi a, xi b] H (.binOp .lss 3 (.tmp 0) (.tmp 1) 3) 0 (xb false) H := lssF h
theorem qgtrT (H : Go.Lg.Heap) (a b : Int) (h : a > b := by omega) : Ob pg an [xi a, xi b] H (.binOp .gtr 3 (.tmp 0) (.tmp 1) 3) 0 (xb true) H := gtrT h
theorem qgtrF (H : Go.Lg.Heap) (a b : Int) (h : ¬ a > b := by omega) : Ob pg an [xi a, xi b] H (.binOp .gtr 3 (.tmp 0) (.tmp 1) 3) 0 (xb false) H := gtrF h
theorem qleqT (H : Go.Lg.Heap) (a b : Int) (h : a ≤ b := by omega) : Ob pg an [xi a, xi b] H (.binOp .leq 3 (.tmp 0) (.tmp 1) 3) 0 (xb true) H := leqT h
theorem qleqF (H : Go.Lg.Heap) (a b : Int) (h : ¬ a ≤ b := by omega) : Ob pg an [xi a, xi b] H (.binOp .leq 3 (.tmp 0) (.tmp 1) 3) 0 (xb false) H := leqF h
theorem qgeqT (H : Go.Lg.Heap) (a b : Int) (h : a ≥ b := by omega) : Ob pg an [xi a, xi b] H (.binOp .geq 3 (.tmp 0) (.tmp 1) 3) 0 (xb true) H := geqT h
theorem qgeqF (H : Go.Lg.Heap) (a b : Int) (h : ¬ a ≥ b := by omega) : Ob pg an [xi a, xi b] H (.binOp .geq 3 (.tmp 0) (.tmp 1) 3) 0 (xb false) H := geqF h
theorem qoAdd (H : Go.Lg.Heap) (a b c : Int) (h : -9223372036854775808 ≤ a + b ∧ a + b ≤ 9223372036854775807 ∧ a + b = c := by omega) : Ob pg an [xi a, xi b] H (.binOp .add 3 (.tmp 0) (.tmp 1) 3) 0 (xi c) H := oAdd h
theorem qoSub (H : Go.Lg.Heap) (a b c : Int) (h : -9223372036854775808 ≤ a - b ∧ a - b ≤ 9223372036854775807 ∧ a - b = c := by omega) : Ob pg an [xi a, xi b] H (.binOp .sub 3 (.tmp 0) (.tmp 1) 3) 0 (xi c) H := oSub h
theorem rC {e : Env} {H : Go.Lg.Heap} {id : Nat} {cs : List C} {a : Nat} {t : TypeId} {v : Y} {R1 : List ResultVar} {ys : List Y} (hH : H[id]? = some (.obj cs)) (hg : (get e a).c? = some (.ptr id 0) := by kernel_rfl) (hv : ldC pg t 0 cs = some v := by kernel_rfl) (hr : R1.mapM (resX pg e H) = some ys := by kernel_rfl) : (ResultVar.cell a t :: R1).mapM (resX pg e H) = some (v :: ys) := by
 have h : resX pg e H (.cell a t) = some v := by
  unfold ldC at hv
  obtain ⟨n, hn, hv⟩ := kB.1 hv
  split at hv
  ·rename_i hh
   simp only [kA, Nat.ble_eq] at hh
   simp only [resX, hg, kS, hn]
   rw [if_pos (by omega)]
   unfold ldCells
   simp only [hH]
   rw [if_pos hh.2]
   exact hv
  ·cases hv
 rw [List.mapM_cons, h]
 simp only [Option.bind_eq_bind, kS, hr]
 rfl
theorem sH {cs : List HP} {H : Go.Lg.Heap} {A : HP} (h : On cs H) (is rest : List Nat) (hA : ∀ h, SL (is.map fun i => cs.getD i emp) h → A h) (hp : (rest ++ is).isPerm (List.range cs.length) = true := by kernel_rfl) : On (rest.map (fun i => cs.getD i emp) ++ [A]) H := On.shut is rest hp hA h
theorem rT {e : Env} {H : Go.Lg.Heap} {a : Nat} {v : Y} {R1 : List ResultVar} {ys : List Y} (hr : R1.mapM (resX pg e H) = some ys) (h : resX pg e H (.tmp a) = some v := by kernel_rfl) : (ResultVar.tmp a :: R1).mapM (resX pg e H) = some (v :: ys) := by
 rw [List.mapM_cons, h]
 simp only [Option.bind_eq_bind, kS, hr]
 rfl
end
abbrev ea_ := @List.nil_append
abbrev eb_ := @List.append_nil
abbrev ec_ := @List.drop_zero
abbrev ed_ := @Nat.zero_add
abbrev ee_ := @List.getElem?_take
abbrev ef_ := @List.getElem?_drop
abbrev eg_ := @List.getElem?_append
abbrev eh_ := @List.length_take
abbrev ei_ := @List.length_drop
abbrev ej_ := @List.length_append
abbrev ek_ := @List.length_nil
abbrev el_ := @List.getElem?_nil
abbrev em_ := @Int.toNat_natCast
abbrev en_ := @List.length_cons
abbrev eo_ := @List.length_map
abbrev ep_ := @List.getElem?_eq_none
theorem wTk {P : Program} {A : Ann} {f : FuncId} {e : Env} {H : Go.Lg.Heap} {Q : Ex → Env → Go.Lg.Heap → Prop} {c : Operand} {a : Code} (h : Q .normal e H) (hc : ev e c = .y (.one (.sc (.bool true))) := by kernel_rfl) : Wp P A f (.cond c .skip a) e H Q := wT hc (wK h)
theorem wTa {P : Program} {A : Ann} {f : FuncId} {e : Env} {H : Go.Lg.Heap} {Q : Ex → Env → Go.Lg.Heap → Prop} {c : Operand} {a b : Code} (h : Wp P A f a e H Q) (hc : ev e c = .y (.one (.sc (.bool true))) := by kernel_rfl) : Wp P A f (.cond c a b) e H Q := wT hc h
theorem wFk {P : Program} {A : Ann} {f : FuncId} {e : Env} {H : Go.Lg.Heap} {Q : Ex → Env → Go.Lg.Heap → Prop} {c : Operand} {a : Code} (h : Q .normal e H) (hc : ev e c = .y (.one (.sc (.bool false))) := by kernel_rfl) : Wp P A f (.cond c a .skip) e H Q := wF hc (wK h)
theorem wFa {P : Program} {A : Ann} {f : FuncId} {e : Env} {H : Go.Lg.Heap} {Q : Ex → Env → Go.Lg.Heap → Prop} {c : Operand} {a b : Code} (h : Wp P A f b e H Q) (hc : ev e c = .y (.one (.sc (.bool false))) := by kernel_rfl) : Wp P A f (.cond c a b) e H Q := wF hc h
theorem JZ {a : Prop} (x : a) : a ∧ True := ⟨x, trivial⟩
theorem Jai {a b : Prop} (x : a) (y : b) : a ∧ b := ⟨x, y⟩
abbrev Ja := @ob_raw pg an
abbrev Jb := @ob_index pg an
abbrev Jc := @or_len pg an
abbrev Jd := @ob_store_live pg an
abbrev Je := @ob_cnt_get pg an
abbrev Jf := @ob_rem pg an
abbrev Jg := @oL pg an
abbrev Jh := @oP1 pg an
abbrev Ji := @ob_eq_agg pg an
abbrev Jj := @ob_pure pg an
abbrev Jk := @oS pg an
abbrev Jl := @or_index pg an
abbrev Jm := @or_append_new pg an
abbrev Jn := @ob_len_items pg an
abbrev Jo := @ob_append_none pg an
abbrev Jp := @oC1 pg an
abbrev Jq := @ob_slice_slh pg an
abbrev Jr := @or_slicec pg an
abbrev Js := @ob_slice_sll pg an
abbrev Jt := @or_load pg an
abbrev Ju := @or_slicel pg an
abbrev Jv := @or_append_cap pg an
abbrev Jw := @ob_cnt_old pg an
abbrev Jx := @ob_cnt_set pg an
abbrev Jy := @ob_cnt_new pg an
abbrev Jz := @ob_ones_one pg an
abbrev Ja1 := @oP3 pg an
abbrev Jb1 := @or_store pg an
abbrev Jc1 := @ob_box pg an
abbrev Jd1 := @or_append pg an
abbrev Je1 := @ob_cnt_make pg an
abbrev Jf1 := @or_make pg an
abbrev Jg1 := @or_copy pg an
abbrev Jh1 := @ob_callv pg an
abbrev Ji1 := @ob_neq_agg pg an
abbrev Jj1 := @ob_alloc pg an
abbrev Jk1 := @ob_slice_slc pg an
end Go.Proofs.Ytjdnhbnpdbpgbaa
