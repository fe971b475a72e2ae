/- Lemmas. -/
import Derived.Test.YtbkdpmkjcoaapaaX35
import Derived.Test.YtbkdpmkjcoaapaaProg
import Derived.KernelRfl
namespace Go.Proofs.Ytbkdpmkjcoaapaa
open Go.Lg
set_option linter.unusedVariables false
set_option maxRecDepth 100000
set_option maxHeartbeats 8000000
set_option linter.unusedSimpArgs false
abbrev NI : Sh := .int .i64
abbrev BB : Sh := .bool
abbrev AC : Sh := .pr NI (.pr NI .nil)
def liveT : List (Nat × List (Nat × List Nat)) := [(3, [(0, [0, 1, 2]), (1, [0, 1, 2, 7]), (2, [0, 1, 2, 7]), (3, [0, 1, 2, 7]), (4, [0, 1, 2, 7, 8, 10]), (5, [0, 1, 2, 7, 8, 10, 37]), (6, [8, 10, 13]), (7, [6]), (8, [0, 1, 2, 8, 14]), (9, [0, 1, 2, 8, 14, 15]), (10, [0, 1, 2, 8, 14, 15, 16]), (11, [0, 1, 2, 8, 14, 15, 16, 57]), (12, [0, 1, 2, 8, 14, 15, 16]), (13, [0, 1, 2, 8, 14, 15, 16, 71]), (14, [6]), (15, [0, 1, 2, 8, 14, 15, 16]), (16, [0, 1, 2, 8, 14, 15, 16, 17, 18]), (17, [0, 1, 2, 8, 14, 15, 16, 17, 18]), (18, [0, 1, 2, 8, 14, 15, 16, 17, 18, 19]), (19, [0, 1, 2, 8, 14, 15, 16, 17, 18, 19, 20]), (20, [0, 1, 2, 8, 14, 15, 16, 17, 18, 19, 20, 95]), (21, [0, 1, 2, 8, 14, 15, 16, 17, 18, 19, 20]), (22, [0, 1, 2, 8, 14, 15, 16, 17, 18, 19, 20, 105]), (23, [0, 1, 2, 8, 14, 15, 16, 17, 18, 19, 20]), (24, [0, 1, 2, 8, 14, 15, 16, 134]), (25, [6]), (26, [0, 1, 2, 8, 14, 15, 16, 136]), (27, [6]), (28, [6])]),
 (5, [(0, [0, 2]), (1, [2, 3]), (2, [2, 3, 4]), (3, [2, 3, 4, 8]), (4, [2, 3, 4]), (5, [2, 3, 4]), (6, [2])]),
 (6, [(0, [1]), (1, [1, 10]), (2, [2, 3, 4]), (3, [1, 5]), (4, [1, 5]), (5, [1, 5, 6]), (6, [5, 6, 23, 24]), (7, [5, 6, 23, 24, 25]), (8, [5, 6, 7, 23, 24]), (9, [5, 6, 7, 23, 24]), (10, [5, 6, 23, 24]), (11, [5, 6, 23, 24]), (12, [2, 3, 4])]),
 (7, [(0, [1, 2]), (1, [1, 2, 5]), (2, [1, 2, 5, 6]), (3, [1, 2, 5, 6, 10]), (4, [2, 3, 4]), (5, [1, 2, 5, 6]), (6, [1, 2, 5, 6, 7]), (7, [1, 2, 5, 6, 7, 19]), (8, [1, 2, 5, 6, 7]), (9, [1, 2, 5, 6, 7]), (10, [1, 2, 5, 6, 7]), (11, [2, 3, 4])]),
 (8, [(0, []), (1, [1, 2, 3]), (2, [1, 24]), (3, [0]), (4, [1, 4, 5]), (5, [1, 4, 5, 6, 7]), (6, [0])]),
 (9, [(0, [4, 5, 6, 7]), (1, [4, 5, 6, 7, 45]), (2, [8, 9]), (3, [4, 5, 6, 7, 10]), (4, [4, 5, 6, 7, 10, 49]), (5, [8, 9]), (6, [4, 5, 6, 7, 64]), (7, [8, 9]), (8, [4, 5, 6, 7]), (9, [4, 5, 6, 7]), (10, [4, 5, 7, 79]), (11, [8, 9]), (12, [4, 5, 7]), (13, [4, 5]), (14, [4, 5, 109]), (15, [4, 11]), (16, [11]), (17, [8, 9]), (18, [4, 5, 13]), (19, [4, 5, 14, 15]), (20, [4, 14, 15]), (21, [4, 14, 15]), (22, [4, 14, 136, 137, 138]), (23, [4, 14, 136, 137, 138, 139]), (24, [4, 14, 17, 136, 137, 138]), (25, [4, 14, 17, 136, 137, 138, 151]), (26, [4, 14, 17, 136, 137, 138]), (27, [4, 14, 136, 137, 138]), (28, [4, 14, 136, 137, 138]), (29, [8, 9])]),
 (10, [(0, [0, 2]), (1, [2])]),
 (11, [(0, [0]), (1, [2])]),
 (12, [(0, [0]), (1, [0, 5]), (2, [2]), (3, [2])]),
 (13, [(0, [0]), (1, [0])]),
 (16, [(0, [1]), (1, [1, 38]), (2, [2]), (3, [1, 40, 41, 42]), (4, [1, 40, 41, 42, 43]), (5, [1, 3, 4, 40, 41, 42]), (6, [1, 3, 4, 40, 41, 42, 66]), (7, [2]), (8, [1, 40, 41, 42, 72]), (9, [2]), (10, [1, 40, 41, 42]), (11, [2])]),
 (17, [(0, [0]), (1, [0, 4]), (2, [2]), (3, [2])]),
 (18, [(0, [1]), (1, [1, 39]), (2, [2]), (3, [1, 3]), (4, [1, 3, 44]), (5, [1, 3]), (6, [1, 3, 4]), (7, [1, 3, 4, 71]), (8, [2]), (9, [1, 3, 4, 5]), (10, [1, 3, 4, 5, 74]), (11, [1, 3, 4, 5]), (12, [1, 3, 4, 5, 85]), (13, [2]), (14, [2])]),
 (19, [(0, [0, 1]), (1, [0, 1, 10]), (2, [4]), (3, [0, 1, 5]), (4, [0, 1, 5, 14]), (5, [0, 1, 5]), (6, [0, 1, 5, 25]), (7, [4]), (8, [4])]),
 (20, [(0, [0]), (1, [2])]),
 (21, [(0, [1]), (1, [5]), (2, [2])]),
 (22, [(0, [0, 1, 5]), (1, [5, 15]), (2, [5, 15, 16]), (3, [6]), (4, [5, 18]), (5, [6]), (6, [6])]),
 (23, [(0, [0, 1]), (1, [0, 1, 5]), (2, [0, 1, 5, 12]), (3, [4]), (4, [0, 1, 5, 6]), (5, [0, 1, 5, 6, 19]), (6, [0, 1, 5, 6]), (7, [0, 1, 5, 6, 7]), (8, [0, 1, 5, 6, 7, 29]), (9, [0, 1, 5, 6]), (10, [0, 1, 5, 6]), (11, [0, 5]), (12, [4])]),
 (24, [(0, [0, 1, 2]), (1, [4])]),
 (25, [(0, [0, 1]), (1, [0, 1, 6]), (2, [0, 1, 6, 7]), (3, [0, 1, 6, 7, 8]), (4, [0, 1, 6, 7, 8, 16]), (5, [0, 1, 6, 7, 8]), (6, [0, 1, 6, 7, 8, 30]), (7, [0, 1, 6, 7, 8]), (8, [0, 1, 6, 7, 8]), (9, [0, 1, 6, 7, 8]), (10, [4, 5])]),
 (26, [(0, []), (1, [2])]),
 (27, [(0, [1]), (1, [1, 7]), (2, [1, 7, 8]), (3, [2]), (4, [1, 11]), (5, [2]), (6, [2])]),
 (28, [(0, [0, 1, 2]), (1, [4])]),
 (29, [(0, [0, 2]), (1, [])]),
 (30, [(0, [0]), (1, [0, 4]), (2, [2]), (3, [2])]),
 (32, [(0, [0]), (1, [2])]),
 (33, [(0, [0, 1]), (1, [4])]),
 (34, [(0, [1, 2]), (1, [3])]),
 (35, [(0, [0]), (1, [0, 30]), (2, [2]), (3, [0, 3]), (4, [0, 3, 34]), (5, [0, 3]), (6, [0, 3, 4]), (7, [0, 3, 64]), (8, [2]), (9, [2])]),
 (36, [(0, [1]), (1, [4]), (2, [2])]),
 (37, [(0, [1, 2, 3]), (1, [2, 3, 4]), (2, [2, 3, 4, 8]), (3, [2, 3, 4]), (4, [2, 3, 4])]),
 (38, [(0, [0, 1]), (1, [0, 1, 7, 8]), (2, [0, 1, 7, 8, 9]), (3, [0, 1, 5, 7, 8]), (4, [0, 1, 5, 7, 8, 16]), (5, [4]), (6, [0, 1, 7, 8]), (7, [4])]),
 (39, [(0, [0, 2]), (1, [5])]),
 (40, [(0, [0, 1, 2]), (1, [5])]),
 (41, [(0, []), (1, [4])]),
 (42, [(0, [0, 1, 2, 3, 8]), (1, [0, 1, 2, 3, 8, 9]), (2, [0, 1, 2, 3, 8, 9, 10]), (3, [0, 1, 2, 3, 8, 9, 10, 23]), (4, []), (5, [0, 1, 2, 3, 8, 9, 10, 29]), (6, []), (7, [0, 1, 2, 3, 8, 9, 10, 35]), (8, [0, 1, 2, 3, 8, 9, 10]), (9, [0, 1, 2, 3, 8, 9, 10]), (10, [0, 1, 2, 3, 8, 9, 10, 11, 12]), (11, [0, 1, 2, 3, 8, 9, 10, 11, 12, 50]), (12, [0, 1, 2, 3, 8, 9, 10, 11]), (13, [0, 1, 2, 3, 8, 9, 10, 11]), (14, [0, 1, 2, 3, 8, 9, 10, 11, 12]), (15, [0, 1, 2, 3, 8, 9, 10, 11, 68]), (16, [0, 1, 2, 3, 8, 9, 10, 11, 72]), (17, [0, 1, 2, 3, 8, 9, 10, 11, 87]), (18, [0, 2, 3, 8, 9, 13]), (19, [0, 1, 2, 3, 8, 9]), (20, [0, 1, 2, 3, 10, 14, 15]), (21, [0, 1, 2, 3, 9, 10, 14]), (22, [0, 1, 2, 3, 9, 10, 14, 16, 17]), (23, [0, 1, 2, 3, 9, 14, 16, 17, 18]), (24, [0, 1, 2, 3, 9, 14, 16, 17, 18, 113]), (25, [0, 1, 2, 3, 8, 9, 14]), (26, [0, 2, 3, 8, 9, 14]), (27, [0, 1, 2, 3, 8, 9]), (28, [0, 1, 2, 3, 8, 9, 14]), (29, [0, 1, 3, 8, 9, 14]), (30, [0, 1, 2, 3, 8, 9])]),
 (43, [(0, [0]), (1, [2]), (2, [2])]),
 (44, [(0, [0, 1]), (1, [0, 1, 7, 8]), (2, [0, 1, 7, 8, 9]), (3, [0, 1, 5, 7, 8]), (4, [0, 1, 5, 7, 8, 16]), (5, [4]), (6, [0, 1, 7, 8]), (7, [4])]),
 (45, [(0, [0]), (1, [2])]),
 (46, [(0, [1, 2, 3]), (1, [1, 2, 3, 16]), (2, [6, 7]), (3, [1, 2, 3, 20]), (4, [6, 7]), (5, [1, 2, 3]), (6, [1, 2, 3, 8]), (7, [1, 2, 3, 8, 28]), (8, [1, 2, 3, 8]), (9, [2, 3, 8, 9, 10]), (10, [2, 3, 8, 9, 10, 44]), (11, [6, 7]), (12, [1, 2, 3, 8]), (13, [6, 7])]),
 (47, [(0, [1, 2, 3, 4]), (1, [1, 2, 3, 4]), (2, [1, 2, 3, 4]), (3, [1, 2, 3, 4, 30]), (4, [8]), (5, [1, 2, 3, 4, 33]), (6, [8]), (7, [1, 2, 3, 4, 36, 37]), (8, [1, 2, 3, 4, 36, 37, 38]), (9, [1, 2, 3, 4, 9, 36, 37]), (10, [1, 2, 3, 4, 10, 36, 37]), (11, [1, 2, 3, 4, 10, 36, 37, 51]), (12, [8]), (13, [1, 2, 3, 4, 36, 37]), (14, [8])]),
 (48, [(0, [0, 1, 2, 6]), (1, [0, 1, 2, 6, 12]), (2, [0, 1, 2, 6]), (3, [0, 1, 2, 6, 7]), (4, [0, 1, 2, 6, 7, 30]), (5, [0, 1, 2, 6, 7]), (6, [0, 1, 2, 6, 7])]),
 (49, [(0, [0, 1, 2, 6]), (1, [0, 1, 2, 6, 7]), (2, [0, 6, 7, 8]), (3, [0, 6, 7, 8, 9]), (4, [0, 6, 7, 8, 9, 19]), (5, [0, 6, 7, 8, 9]), (6, [0, 6, 7, 8, 9]), (7, [0, 6, 7, 10]), (8, [0, 6, 7, 10, 30]), (9, [0, 6, 7, 10]), (10, [0, 6, 7, 10]), (11, [0, 6, 7, 10])]),
 (50, [(0, [0, 1, 6]), (1, [0, 1, 6, 15]), (2, [0, 1, 6, 7]), (3, [0, 1, 6, 7, 8]), (4, [0, 1, 6, 7, 8, 9]), (5, [0, 1, 6, 7, 8, 9, 33]), (6, [0, 1, 6, 7, 8, 9]), (7, [0, 1, 6, 7, 8, 9, 10]), (8, [0, 1, 6, 7, 8, 9, 10, 43]), (9, [0, 1, 6, 7, 8, 9, 10]), (10, [0, 1, 6, 7, 8, 9])]),
 (51, [(0, [0, 1, 2]), (1, [0, 1, 8]), (2, [0, 1, 8, 9]), (3, [0, 1, 8, 9, 10]), (4, [0, 1, 8, 9, 10, 11]), (5, [0, 8, 9, 10, 11, 12]), (6, [0, 8, 9, 10, 11, 12, 32]), (7, [0, 9, 10, 11, 12, 34]), (8, [0, 9, 10, 11, 12]), (9, [0, 9, 10, 11, 12]), (10, [0, 9, 10, 11, 12]), (11, [9, 11]), (12, [11, 49]), (13, [6, 7]), (14, [11, 49, 51]), (15, [6, 7]), (16, [11, 54]), (17, [6, 7])]),
 (52, [(0, [0, 2, 6]), (1, [0, 6, 7]), (2, [0, 6, 7, 13]), (3, [0, 6, 7]), (4, [0, 6, 7]), (5, [0, 6, 7])]),
 (53, [(0, [0, 1, 2]), (1, [0, 1, 2, 7]), (2, [0, 1, 2, 7, 8]), (3, [0, 1, 2, 7, 8, 14]), (4, [0, 1, 2, 7, 8]), (5, [0, 1, 2, 7, 8, 32]), (6, [0, 1, 2, 7, 8]), (7, [0, 1, 2, 7, 8, 37]), (8, [6]), (9, [0, 1, 2, 7, 8, 41]), (10, [6]), (11, [0, 1, 2, 7, 8]), (12, [0, 1, 2, 7, 8, 61]), (13, [0, 1, 2, 7, 8, 9]), (14, [0, 1, 2, 7, 8, 9, 65]), (15, [0, 1, 2, 7, 8, 9]), (16, [0, 1, 2, 7, 8, 9, 78]), (17, [0, 1, 2, 7, 8, 9]), (18, [0, 1, 2, 7, 8, 98]), (19, [0, 1, 2, 7, 8, 10]), (20, [0, 1, 2, 7, 8, 10, 103]), (21, [0, 1, 2, 7, 8, 10]), (22, [0, 1, 2, 7, 8, 10, 116]), (23, [0, 1, 2, 7, 8, 10]), (24, [6])]),
 (54, [(0, [0, 1]), (1, [4])]),
 (55, [(0, [0, 1, 2, 3]), (1, [0, 1, 2]), (2, [0, 1, 9, 10]), (3, [0, 1, 9, 10, 43]), (4, [0, 1, 9, 10]), (5, [0, 1, 9, 10, 59]), (6, [0, 1, 9, 10]), (7, [0, 1, 9, 10, 64]), (8, [0, 1, 9, 10]), (9, [0, 1, 9, 10]), (10, [0, 1, 9, 10]), (11, [8])]),
 (56, [(0, [0, 1, 2, 3]), (1, [0, 1, 2]), (2, [0, 1, 10, 11]), (3, [0, 1, 10, 11, 43]), (4, [0, 1, 10, 11]), (5, [0, 1, 10, 11, 60]), (6, [0, 1, 10, 11]), (7, [0, 1, 10, 11, 65]), (8, [11]), (9, [8, 9]), (10, [0, 1, 10, 11]), (11, [0, 1, 10, 11]), (12, [0, 1, 10, 11]), (13, [0, 1, 10, 11, 112]), (14, [0, 1, 10, 11]), (15, [0, 1, 10, 11, 129]), (16, [0, 1, 10, 11]), (17, [0, 1, 10, 11, 134]), (18, [0, 1, 10, 11]), (19, [0, 1, 10, 11]), (20, [0, 1, 10, 11]), (21, [11]), (22, [8, 9])]),
 (57, [(0, [0, 2]), (1, [0, 2, 4]), (2, [0]), (3, [0, 2]), (4, [0, 2, 8]), (5, [0, 2]), (6, [0, 2]), (7, [2])]),
 (58, [(0, [0, 2]), (1, [0, 2, 4]), (2, [0]), (3, [0, 2]), (4, [0, 2, 8]), (5, [0, 2]), (6, [0, 2]), (7, [0, 2, 14]), (8, [0, 2]), (9, [0, 2]), (10, [2])]),
 (59, [(0, [1]), (1, [1, 3]), (2, [1, 3, 4]), (3, [1, 3, 4, 9]), (4, [2]), (5, [1, 3, 4, 9, 10]), (6, [1, 3, 9, 12]), (7, [1, 3]), (8, [1, 3, 4]), (9, [1, 3, 9, 25]), (10, [1, 3]), (11, [1, 3, 4]), (12, [1, 3, 9, 38]), (13, [1, 3]), (14, [1, 3, 4]), (15, [1, 3, 9, 51]), (16, [1, 3]), (17, [1, 3, 4]), (18, [1, 3, 9, 66]), (19, [1, 3]), (20, [1, 3, 4]), (21, [1, 3, 9, 74]), (22, [1, 3]), (23, [1, 3, 4]), (24, [1, 3, 9, 82]), (25, [1, 3, 82]), (26, [2]), (27, [2])]),
 (60, [(0, [1]), (1, [1, 3]), (2, [1, 3, 6]), (3, [1, 3, 6, 7]), (4, [2]), (5, [1, 3, 6, 11]), (6, [2]), (7, [1, 3, 6, 25]), (8, [2]), (9, [1, 3, 6, 39]), (10, [2]), (11, [1, 3, 6, 55]), (12, [2]), (13, [1, 3, 6, 64]), (14, [2]), (15, [1, 3, 6, 92]), (16, [2]), (17, [3, 6, 106]), (18, [3, 106]), (19, [2]), (20, [2])]),
 (61, [(0, [0, 2, 3, 8]), (1, [0, 2, 3, 8, 9]), (2, [0, 2, 3, 8, 9, 16]), (3, [0, 2, 3, 8, 9, 36]), (4, [0, 2, 3, 8, 9]), (5, [0, 2, 3, 8, 9, 52]), (6, [0, 2, 3, 9]), (7, [0, 2, 3, 8])]),
 (62, [(0, [0]), (1, [2])]),
 (63, [(0, [0]), (1, [0]), (2, [0]), (3, [0]), (4, [2])]),
 (64, [(0, [0, 1, 2]), (1, [6])]),
 (65, [(0, [0, 1, 2, 3, 4]), (1, [0, 1, 2, 3, 4]), (2, [0, 1, 2, 4]), (3, [2]), (4, [10])]),
 (66, [(0, [0]), (1, [2])]),
 (67, [(0, [0]), (1, [0, 9]), (2, [2]), (3, [2])]),
 (68, [(0, [1]), (1, [2])]),
 (69, [(0, [0]), (1, [2])]),
 (70, [(0, [0, 1, 2, 3, 4, 5]), (1, [11])]),
 (71, [(0, [0]), (1, [2])]),
 (72, [(0, [0]), (1, [0, 24]), (2, [2]), (3, [0, 3]), (4, [0, 3, 28]), (5, [0, 3]), (6, [0, 3, 4]), (7, [0, 3, 63]), (8, [2]), (9, [2])]),
 (73, [(0, [0, 1, 2, 3]), (1, [1, 2, 3, 18]), (2, [1, 2]), (3, [8, 9]), (4, [8, 9])]),
 (74, [(0, [0]), (1, [2]), (2, [2])]),
 (75, [(0, [0]), (1, [2])]),
 (77, [(0, [0]), (1, [0, 7]), (2, [2]), (3, [3]), (4, [3, 4]), (5, [3, 4, 17]), (6, [3]), (7, [2])]),
 (79, [(0, [0]), (1, [2])]),
 (80, [(0, [0, 1]), (1, [4])])]
def loopT : List (Nat × List (Nat × (List Nat × Bool))) := [(3, [(11, ([0, 1, 2, 8, 14, 15, 16], false)), (20, ([0, 1, 2, 8, 14, 15, 16, 17, 18, 19, 20], false))]),
 (5, [(3, ([2, 3, 4], false))]),
 (6, [(7, ([5, 6, 23, 24], false))]),
 (7, [(7, ([1, 2, 5, 6, 7], false))]),
 (9, [(23, ([4, 14, 136, 137, 138], false))]),
 (16, [(4, ([1, 40, 41, 42], false))]),
 (18, [(4, ([1, 3], false)), (10, ([1, 3, 4, 5], false))]),
 (19, [(4, ([0, 1, 5], false))]),
 (23, [(5, ([0, 1, 5, 6], false))]),
 (25, [(4, ([0, 1, 6, 7, 8], false))]),
 (35, [(4, ([0, 3], false))]),
 (38, [(2, ([0, 1, 7, 8], false))]),
 (42, [(2, ([0, 1, 2, 3, 8, 9], false))]),
 (44, [(2, ([0, 1, 7, 8], false))]),
 (46, [(7, ([1, 2, 3, 8], false))]),
 (47, [(8, ([1, 2, 3, 4, 36, 37], false))]),
 (48, [(1, ([0, 1, 2, 6], false)), (4, ([0, 1, 2, 6, 7], false))]),
 (49, [(4, ([0, 6, 7, 8, 9], false)), (8, ([0, 6, 7, 10], false))]),
 (50, [(5, ([0, 1, 6, 7, 8, 9], false))]),
 (52, [(2, ([0, 6, 7], false))]),
 (53, [(3, ([0, 1, 2, 7, 8], false)), (5, ([0, 1, 2, 7, 8], false)), (14, ([0, 1, 2, 7, 8, 9], false)), (20, ([0, 1, 2, 7, 8, 10], false))]),
 (55, [(3, ([0, 1, 9, 10], false)), (5, ([0, 1, 9, 10], false))]),
 (56, [(3, ([0, 1, 10, 11], false)), (5, ([0, 1, 10, 11], false)), (13, ([0, 1, 10, 11], false)), (15, ([0, 1, 10, 11], false))]),
 (61, [(1, ([0, 2, 3, 8], false))]),
 (72, [(4, ([0, 3], false))])]
def maskT : List (Nat × List (Nat × List (Nat × (Bool × List Nat)))) := [(5, [(5, [(1, (true, [3])), (8, (false, [3]))])]),
 (9, [(12, [(0, (true, [4])), (6, (false, [4]))]), (13, [(0, (true, [4])), (7, (false, [4]))])])]
def tab {α : Type} (T : List (Nat × List (Nat × α))) (f r : Nat) : Option α := (T.lookup f).bind (List.lookup r)
abbrev an : Ann := { pureSl := fun _ => true, dryB := fun t => t == 22 || t == 28 || t == 32 || t == 56, pureFn := fun f => [5, 7, 8, 10, 13, 16, 17, 18, 21, 32, 43].contains f, live := tab liveT, loop := tab loopT, mask := fun f r i => (tab maskT f r).bind (List.lookup i), may := fun f => [3, 5, 6, 7, 8, 9, 10, 11, 12, 13, 16, 17, 18, 19, 20, 21, 22, 23, 24, 25, 26, 27, 28, 29, 30, 32, 33, 34, 35, 36, 37, 38, 39, 40, 41, 42, 43, 44, 45, 46, 47, 48, 49, 50, 51, 52, 53, 54, 55, 56, 57, 58, 59, 60, 61, 62, 63, 64, 65, 66, 67, 68, 69, 70, 71, 72, 73, 74, 75, 77, 79, 80].contains f }
noncomputable abbrev pg : Program := Try.prog
theorem ob_nil {P : Program} {A : Ann} {mk : Nat → Msk} {ops : Array Oper} : ∀ {is : List Nat} {e : Env} {H : Go.Lg.Heap} {r : Env × Go.Lg.Heap}, runO P A mk ops [] is e H = some r → obO P A mk ops [] is e H := by
 intro is
 induction is with
 | nil => intro e H r _; trivial
 | cons i is ih =>
  intro e H r h
  cases hop : ops[i]? with
  | none => simp only [runO, obO, hop] at h ⊢; exact ih h
  | some o =>
   simp only [runO, obO, hop] at h ⊢
   cases hw : wantX ops (get e) o with
   | none => simp only [hw] at h; cases h
   | some b =>
    simp only [hw, kS] at h ⊢
    cases b with
    | false => simp only [Bool.false_eq_true, if_false] at h; exact ih h
    | true =>
     simp only [if_true, ansOf, Option.none_or] at h ⊢
     cases hx : opD P A (runX P A 0) (mk i) e H o with
     | none => rw [hx] at h; cases h
     | some v => rw [hx] at h; exact ih h
theorem rS0 {P : Program} {A : Ann} {f : FuncId} {e : Env} {H : Go.Lg.Heap} {Q : Ex → Env → Go.Lg.Heap → Prop} {id : Nat} {ops : Array Oper} {d : Bool} {b : Code} (e1 : Env) (hr : (runO P A (mkM (A.mask f id) (A.late f id) H.length) ops [] (List.range ops.size) e (holesX (A.late f id) H)).map (fun x => (liveX A f id x.1, x.2)) = some (e1, H)) (h : Wp P A f b e1 H Q) : Wp P A f (.seq (.region id ops d) b) e H Q := rSq [] e1 H (ob_nil (kM.1 hr).choose_spec.1) hr h
abbrev HH := Go.Lg.Heap
abbrev sto (H : HH) (n : Nat) (o : O) : HH := List.set H n o
abbrev yp (k : Nat) : X := .y (.one (.ptr k 0))
abbrev rft {α : Type} (k : Nat) (l : List α) : C := rowC k 0 l.length 0 l.length true
abbrev rff {α : Type} (k : Nat) (l : List α) : C := rowC k 0 l.length 0 l.length false
def Oz (ans : List (Nat × X × Go.Lg.Heap)) (T : Prop) : Prop := T
theorem zN : Oz [] True := trivial
theorem zA (i : Nat) {vals : List X} {H : Go.Lg.Heap} {op : Op} {ty : TypeId} {v : X} {H' : Go.Lg.Heap} {ans : List (Nat × X × Go.Lg.Heap)} {T : Prop} (h : Ob pg an vals H op ty v H') (r : Oz ans T) : Oz ((i, v, H') :: ans) (Ob pg an vals H op ty v H' ∧ T) := ⟨h, r⟩
theorem zL (i : Nat) {vals : List X} {H : Go.Lg.Heap} {op : Op} {ty : TypeId} {v : X} {H' : Go.Lg.Heap} (h : Ob pg an vals H op ty v H') : Oz [(i, v, H')] (Ob pg an vals H op ty v H' ∧ True) := ⟨h, trivial⟩
section
variable {f : FuncId} {e : Env} {H : Go.Lg.Heap} {Q : Ex → Env → Go.Lg.Heap → Prop} {id : Nat} {ops : Array Oper} {d : Bool} {b : Code} {ans : List (Nat × X × Go.Lg.Heap)} {T : Prop}
theorem rSz (e1 : Env) (H1 : Go.Lg.Heap) (q : Oz ans T) (h : Wp pg an f b e1 H1 Q) (hc : T = obO pg an (mkM (an.mask f id) (an.late f id) H.length) ops ans (List.range ops.size) e (holesX (an.late f id) H) := by kernel_rfl) (hr : (runO pg an (mkM (an.mask f id) (an.late f id) H.length) ops ans (List.range ops.size) e (holesX (an.late f id) H)).map (fun x => (liveX an f id x.1, x.2)) = some (e1, H1) := by kernel_rfl) : Wp pg an f (.seq (.region id ops d) b) e H Q := rSq ans e1 H1 (cast hc q) hr h
theorem rKz (e1 : Env) (H1 : Go.Lg.Heap) (q : Oz ans T) (h : Wp pg an f .skip e1 H1 Q) (hc : T = obO pg an (mkM (an.mask f id) (an.late f id) H.length) ops ans (List.range ops.size) e (holesX (an.late f id) H) := by kernel_rfl) (hr : (runO pg an (mkM (an.mask f id) (an.late f id) H.length) ops ans (List.range ops.size) e (holesX (an.late f id) H)).map (fun x => (liveX an f id x.1, x.2)) = some (e1, H1) := by kernel_rfl) : Wp pg an f (.region id ops d) e H Q := rKq ans e1 H1 (cast hc q) hr h
theorem rRz (e1 : Env) (H1 : Go.Lg.Heap) (q : Oz ans T) (h : Q .normal e1 H1) (hc : T = obO pg an (mkM (an.mask f id) (an.late f id) H.length) ops ans (List.range ops.size) e (holesX (an.late f id) H) := by kernel_rfl) (hr : (runO pg an (mkM (an.mask f id) (an.late f id) H.length) ops ans (List.range ops.size) e (holesX (an.late f id) H)).map (fun x => (liveX an f id x.1, x.2)) = some (e1, H1) := by kernel_rfl) : Wp pg an f (.region id ops d) e H Q := wR ans e1 H1 (cast hc q) hr h
theorem rs0 (e1 : Env) (h : Wp pg an f b e1 H Q) (hr : (runO pg an (mkM (an.mask f id) (an.late f id) H.length) ops [] (List.range ops.size) e (holesX (an.late f id) H)).map (fun x => (liveX an f id x.1, x.2)) = some (e1, H) := by kernel_rfl) : Wp pg an f (.seq (.region id ops d) b) e H Q := rS0 e1 hr h
theorem rOf {fn : Func} {c : Code} {args : List Y} {R : List Y → Go.Lg.Heap → Prop} (hf : pg.funcs[f]? = some fn) (hb : fn.body = some c) (e0 : Env) (h : Wp pg an f c e0 H fun x e H => (x = .normal ∨ x = .ret) ∧ ∃ rs, fn.results.toList.mapM (resX pg e H) = some rs ∧ R rs H) (hm : (an.may f && (decide (args.length ≤ fn.ntmps) && !an.gc f)) = true := by kernel_rfl) (he : (args.zipIdx.map fun p => (p.2, X.y p.1)) = e0 := by kernel_rfl) : ∃ rs H', Runs pg an f args H rs H' ∧ R rs H' := Runs.of hf hb hm e0 he h
end
section
variable {H : Go.Lg.Heap}
theorem qL {id : Nat} {cs : List C} (t : TypeId) (off : Nat) (v : Y) (hH : H[id]? = some (.obj cs)) (hk : ldC pg t off cs = some v := by kernel_rfl) : Ob pg an [.y (.one (.ptr id off))] H (.load t (.tmp 0)) 0 (.y v) H := oL hH hk
theorem qA {id : Nat} {cs : List C} (t : TypeId) (hH : H[id]? = some (.obj cs)) (hk : ldC pg t 0 cs = some (.agg cs) := by kernel_rfl) : Ob pg an [.y (.one (.ptr id 0))] H (.load t (.tmp 0)) 0 (.y (.agg cs)) H := oL hH hk
theorem qS {id : Nat} {cs : List C} (t : TypeId) (off : Nat) (v : Y) (hH : H[id]? = some (.obj cs)) (hk : stC pg t off cs v = true := by kernel_rfl) : Ob pg an [.y (.one (.ptr id off)), .y v] H (.store t (.tmp 0) (.tmp 1)) 0 .undef (H.set id (.obj (splice off v.cells cs))) := oS hH hk
theorem qC1 {g : FuncId} {x : Y} {res : List Y} {H' : Go.Lg.Heap} (hr : Runs pg an g [x] H res H') (hp : an.pureFn g = false := by kernel_rfl) : Ob pg an [.y x] H (.call { callee := .value (.func g), args := #[.tmp 0], argTypes := #[] }) 0 (pack res) H' := oC1 hr hp
theorem qC2 {g : FuncId} {x y : Y} {res : List Y} {H' : Go.Lg.Heap} (hr : Runs pg an g [x, y] H res H') (hp : an.pureFn g = false := by kernel_rfl) : Ob pg an [.y x, .y y] H (.call { callee := .value (.func g), args := #[.tmp 0, .tmp 1], argTypes := #[] }) 0 (pack res) H' := oC2 hr hp
theorem qC3 {g : FuncId} {x y z : Y} {res : List Y} {H' : Go.Lg.Heap} (hr : Runs pg an g [x, y, z] H res H') (hp : an.pureFn g = false := by kernel_rfl) : Ob pg an [.y x, .y y, .y z] H (.call { callee := .value (.func g), args := #[.tmp 0, .tmp 1, .tmp 2], argTypes := #[] }) 0 (pack res) H' := oC3 hr hp
theorem qP1 (H : Go.Lg.Heap) {g : FuncId} {x : Y} {res : List Y} (hc : PureC pg an g [x] res) (hs : [x].mapM (snapY H) = some [x] := by kernel_rfl) (hp : an.pureFn g = true := by kernel_rfl) : Ob pg an [.y x] H (.call { callee := .value (.func g), args := #[.tmp 0], argTypes := #[] }) 0 (pack res) H := oP1 hc hs hp
theorem qP2 (H : Go.Lg.Heap) {g : FuncId} {x y : Y} {res : List Y} (hc : PureC pg an g [x, y] res) (hs : [x, y].mapM (snapY H) = some [x, y] := by kernel_rfl) (hp : an.pureFn g = true := by kernel_rfl) : Ob pg an [.y x, .y y] H (.call { callee := .value (.func g), args := #[.tmp 0, .tmp 1], argTypes := #[] }) 0 (pack res) H := oP2 hc hs hp
theorem qP3 (H : Go.Lg.Heap) {g : FuncId} {x y z : Y} {res : List Y} (hc : PureC pg an g [x, y, z] res) (hs : [x, y, z].mapM (snapY H) = some [x, y, z] := by kernel_rfl) (hp : an.pureFn g = true := by kernel_rfl) : Ob pg an [.y x, .y y, .y z] H (.call { callee := .value (.func g), args := #[.tmp 0, .tmp 1, .tmp 2], argTypes := #[] }) 0 (pack res) H := oP3 hc hs hp
theorem qB {n : Nat} (t : TypeId) (cs : List C) (hl : n = H.length) (hn : (Y.agg cs).cells.all C.live = true := by kernel_rfl) (ht : szT pg t = some (Y.agg cs).cells.length := by kernel_rfl) : Ob pg an [.y (.agg cs)] H (.box t (.tmp 0)) 0 (.y (.one (.ptr n 0))) (H ++ [.obj cs]) := ob_box hl hn ht rfl
theorem qO {n : Nat} (t : TypeId) (cs : List C) (hl : n = H.length) (hz : zeroC pg t = some cs := by kernel_rfl) : Ob pg an [] H (.alloc t) 0 (.y (.one (.ptr n 0))) (H ++ [.obj cs]) := ob_alloc hl hz
theorem lX (H : Go.Lg.Heap) : ∃ n, n = List.length H := ⟨_, rfl⟩
theorem rGz {f : FuncId} {e : Env} {Q : Ex → Env → Go.Lg.Heap → Prop} {id : Nat} {ops : Array Oper} {d : Bool} {b : Code} {ans : List (Nat × X × Go.Lg.Heap)} {T : Prop} (e1 : Env) {cs : List HP} {H1 : Go.Lg.Heap} (hs : On cs H1) (q : Oz ans T) (h : ∀ H2, On cs H2 → Wp pg an f b e1 H2 Q) (hc : T = obO pg an (mkM (an.mask f id) (an.late f id) H.length) ops ans (List.range ops.size) e (holesX (an.late f id) H) := by kernel_rfl) (hr : (runO pg an (mkM (an.mask f id) (an.late f id) H.length) ops ans (List.range ops.size) e (holesX (an.late f id) H)).map (fun x => (liveX an f id x.1, x.2)) = some (e1, H1) := by kernel_rfl) : Wp pg an f (.seq (.region id ops d) b) e H Q := rSz e1 H1 q (wG hs h) hc hr
theorem rHz {f : FuncId} {e : Env} {Q : Ex → Env → Go.Lg.Heap → Prop} {id : Nat} {ops : Array Oper} {d : Bool} {ans : List (Nat × X × Go.Lg.Heap)} {T : Prop} (e1 : Env) {cs : List HP} {H1 : Go.Lg.Heap} (hs : On cs H1) (q : Oz ans T) (h : ∀ H2, On cs H2 → Wp pg an f .skip e1 H2 Q) (hc : T = obO pg an (mkM (an.mask f id) (an.late f id) H.length) ops ans (List.range ops.size) e (holesX (an.late f id) H) := by kernel_rfl) (hr : (runO pg an (mkM (an.mask f id) (an.late f id) H.length) ops ans (List.range ops.size) e (holesX (an.late f id) H)).map (fun x => (liveX an f id x.1, x.2)) = some (e1, H1) := by kernel_rfl) : Wp pg an f (.region id ops d) e H Q := rKz e1 H1 q (wG hs h) hc hr
theorem rOF {f : FuncId} {fn : Func} {c : Code} {args : List Y} {R : List Y → Go.Lg.Heap → Prop} (hf : pg.funcs[f]? = some fn) (hb : fn.body = some c) (h : Wp pg an f c (args.zipIdx.map fun p => (p.2, X.y p.1)) H fun x e H => (x = .normal ∨ x = .ret) ∧ ∃ rs, fn.results.toList.mapM (resX pg e H) = some rs ∧ R rs H) (hm : (an.may f && (decide (args.length ≤ fn.ntmps) && !an.gc f)) = true := by kernel_rfl) : ∃ rs H', Runs pg an f args H rs H' ∧ R rs H' := Runs.of hf hb hm _ rfl h
theorem pE1 {g : FuncId} {xs : List Y} {α : Type} {res : α → List Y} (h : ∃ rs H', Runs pg an g xs [] rs H' ∧ ∃ a, rs.mapM (backY H') = some (res a)) : ∃ a, PureC pg an g xs (res a) := by obtain ⟨rs, H', h1, a, h2⟩ := h; exact ⟨a, rs, H', h1, h2⟩
theorem pE2 {g : FuncId} {xs : List Y} {α β : Type} {res : α → β → List Y} (h : ∃ rs H', Runs pg an g xs [] rs H' ∧ ∃ a b, rs.mapM (backY H') = some (res a b)) : ∃ a b, PureC pg an g xs (res a b) := by obtain ⟨rs, H', h1, a, b, h2⟩ := h; exact ⟨a, b, rs, H', h1, h2⟩
theorem pE4 {g : FuncId} {xs : List Y} {α β γ δ : Type} {res : α → β → γ → δ → List Y} (h : ∃ rs H', Runs pg an g xs [] rs H' ∧ ∃ a b c d, rs.mapM (backY H') = some (res a b c d)) : ∃ a b c d, PureC pg an g xs (res a b c d) := by obtain ⟨rs, H', h1, a, b, c, d, h2⟩ := h; exact ⟨a, b, c, d, rs, H', h1, h2⟩
end
section
variable {t u ty : TypeId}
theorem qlssT (H : Go.Lg.Heap) (a b : Int) (h : a < b := by omega) : Ob pg an [xi a, xi b] H (.binOp .lss 3 (.tmp 0) (.tmp 1) 3) 0 (xb true) H := lssT h
theorem qlssF (H : Go.Lg.Heap) (a b : Int) (h : ¬ a < b := by omega) : Ob pg an [xi a, xi b] H (.binOp .lss 3 (.tmp 0) (.tmp 1) 3) 0 (xb false) H := lssF h
theorem qgtrT (H : Go.Lg.Heap) (a b : Int) (h : a > b := by omega) : Ob pg an [xi a, xi b] H (.binOp .gtr 3 (.tmp 0) (.tmp 1) 3) 0 (xb true) H := gtrT h
theorem qgtrF (H : Go.Lg.Heap) (a b : Int) (h : ¬ a > b := by omega) : Ob pg an [xi a, xi b] H (.binOp .gtr 3 (.tmp 0) (.tmp 1) 3) 0 (xb false) H := gtrF h
theorem qleqT (H : Go.Lg.Heap) (a b : Int) (h : a ≤ b := by omega) : Ob pg an [xi a, xi b] H (.binOp .leq 3 (.tmp 0) (.tmp 1) 3) 0 (xb true) H := leqT h
theorem qleqF (H : Go.Lg.Heap) (a b : Int) (h : ¬ a ≤ b := by omega) : Ob pg an [xi a, xi b] H (.binOp .leq 3 (.tmp 0) (.tmp 1) 3) 0 (xb false) H := leqF h
theorem qgeqT (H : Go.Lg.Heap) (a b : Int) (h : a ≥ b := by omega) : Ob pg an [xi a, xi b] H (.binOp .geq 3 (.tmp 0) (.tmp 1) 3) 0 (xb true) H := geqT h
theorem qgeqF (H : Go.Lg.Heap) (a b : Int) (h : ¬ a ≥ b := by omega) : Ob pg an [xi a, xi b] H (.binOp .geq 3 (.tmp 0) (.tmp 1) 3) 0 (xb false) H := geqF h
theorem qoAdd (H : Go.Lg.Heap) (a b c : Int) (h : -9223372036854775808 ≤ a + b ∧ a + b ≤ 9223372036854775807 ∧ a + b = c := by omega) : Ob pg an [xi a, xi b] H (.binOp .add 3 (.tmp 0) (.tmp 1) 3) 0 (xi c) H := oAdd h
theorem qoSub (H : Go.Lg.Heap) (a b c : Int) (h : -9223372036854775808 ≤ a - b ∧ a - b ≤ 9223372036854775807 ∧ a - b = c := by omega) : Ob pg an [xi a, xi b] H (.binOp .sub 3 (.tmp 0) (.tmp 1) 3) 0 (xi c) H := oSub h
theorem rC {e : Env} {H : Go.Lg.Heap} {id : Nat} {cs : List C} {a : Nat} {t : TypeId} {v : Y} {R1 : List ResultVar} {ys : List Y} (hH : H[id]? = some (.obj cs)) (hg : (get e a).c? = some (.ptr id 0) := by kernel_rfl) (hv : ldC pg t 0 cs = some v := by kernel_rfl) (hr : R1.mapM (resX pg e H) = some ys := by kernel_rfl) : (ResultVar.cell a t :: R1).mapM (resX pg e H) = some (v :: ys) := by
 have h : resX pg e H (.cell a t) = some v := by
  unfold ldC at hv
  obtain ⟨n, hn, hv⟩ := kB.1 hv
  split at hv
  ·rename_i hh
   simp only [kA, Nat.ble_eq] at hh
   simp only [resX, hg, kS, hn]
   rw [if_pos (by omega)]
   unfold ldCells
   simp only [hH]
   rw [if_pos hh.2]
   exact hv
  ·cases hv
 rw [List.mapM_cons, h]
 simp only [Option.bind_eq_bind, kS, hr]
 rfl
theorem sH {cs : List HP} {H : Go.Lg.Heap} {A : HP} (h : On cs H) (is rest : List Nat) (hA : ∀ h, SL (is.map fun i => cs.getD i emp) h → A h) (hp : (rest ++ is).isPerm (List.range cs.length) = true := by kernel_rfl) : On (rest.map (fun i => cs.getD i emp) ++ [A]) H := On.shut is rest hp hA h
theorem rT {e : Env} {H : Go.Lg.Heap} {a : Nat} {v : Y} {R1 : List ResultVar} {ys : List Y} (hr : R1.mapM (resX pg e H) = some ys) (h : resX pg e H (.tmp a) = some v := by kernel_rfl) : (ResultVar.tmp a :: R1).mapM (resX pg e H) = some (v :: ys) := by
 rw [List.mapM_cons, h]
 simp only [Option.bind_eq_bind, kS, hr]
 rfl
end
abbrev ea_ := @List.nil_append
abbrev eb_ := @List.append_nil
abbrev ec_ := @List.drop_zero
abbrev ed_ := @Nat.zero_add
abbrev ee_ := @List.getElem?_take
abbrev ef_ := @List.getElem?_drop
abbrev eg_ := @List.getElem?_append
abbrev eh_ := @List.length_take
abbrev ei_ := @List.length_drop
abbrev ej_ := @List.length_append
abbrev ek_ := @List.length_nil
abbrev el_ := @List.getElem?_nil
abbrev em_ := @Int.toNat_natCast
abbrev en_ := @List.length_cons
abbrev eo_ := @List.length_map
abbrev ep_ := @List.getElem?_eq_none
theorem wTk {P : Program} {A : Ann} {f : FuncId} {e : Env} {H : Go.Lg.Heap} {Q : Ex → Env → Go.Lg.Heap → Prop} {c : Operand} {a : Code} (h : Q .normal e H) (hc : ev e c = .y (.one (.sc (.bool true))) := by kernel_rfl) : Wp P A f (.cond c .skip a) e H Q := wT hc (wK h)
theorem wTa {P : Program} {A : Ann} {f : FuncId} {e : Env} {H : Go.Lg.Heap} {Q : Ex → Env → Go.Lg.Heap → Prop} {c : Operand} {a b : Code} (h : Wp P A f a e H Q) (hc : ev e c = .y (.one (.sc (.bool true))) := by kernel_rfl) : Wp P A f (.cond c a b) e H Q := wT hc h
theorem wFk {P : Program} {A : Ann} {f : FuncId} {e : Env} {H : Go.Lg.Heap} {Q : Ex → Env → Go.Lg.Heap → Prop} {c : Operand} {a : Code} (h : Q .normal e H) (hc : ev e c = .y (.one (.sc (.bool false))) := by kernel_rfl) : Wp P A f (.cond c a .skip) e H Q := wF hc (wK h)
theorem wFa {P : Program} {A : Ann} {f : FuncId} {e : Env} {H : Go.Lg.Heap} {Q : Ex → Env → Go.Lg.Heap → Prop} {c : Operand} {a b : Code} (h : Wp P A f b e H Q) (hc : ev e c = .y (.one (.sc (.bool false))) := by kernel_rfl) : Wp P A f (.cond c a b) e H Q := wF hc h
theorem JZ {a : Prop} (x : a) : a ∧ True := ⟨x, trivial⟩
theorem Jai {a b : Prop} (x : a) (y : b) : a ∧ b := ⟨x, y⟩
abbrev Ja := @or_index pg an
abbrev Jb := @or_load pg an
abbrev Jc := @or_len pg an
abbrev Jd := @ob_callv pg an
abbrev Je := @oL pg an
abbrev Jf := @or_append_new pg an
abbrev Jg := @or_store pg an
abbrev Jh := @or_append pg an
abbrev Ji := @ob_box pg an
abbrev Jj := @ob_raw pg an
abbrev Jk := @ob_store_live pg an
abbrev Jl := @ob_len_part pg an
abbrev Jm := @ob_index pg an
abbrev Jn := @ob_call pg an
abbrev Jo := @ob_pure pg an
abbrev Jp := @oC2 pg an
abbrev Jq := @or_slicel pg an
abbrev Jr := @or_clear pg an
abbrev Js := @or_sliceh pg an
end Go.Proofs.Ytbkdpmkjcoaapaa
